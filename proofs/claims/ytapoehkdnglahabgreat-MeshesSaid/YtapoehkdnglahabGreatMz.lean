/- A part. -/
import Derived.Test.YtapoehkdnglahabGreatMx
import Derived.Test.YtapoehkdnglahabGreatMy
set_option maxHeartbeats 16000000
set_option maxRecDepth 100000
set_option linter.all false
namespace Go.Proofs.YtapoehkdnglahabGreat
section
open Go.RowKit
def Nd.Qe (s:Nd) (r:Rec):Nd:={s with aI:=s.aI++[r],out:={s.out with ay:=s.out.ay++r.bytes}}
attribute [local irreducible] WS LS OpQ y6 cn cv Spec bA aK di cq
variable (w0:World)
theorem sF (gn) (s:Nd) (d:RD) (r:Rec) (hr:s.aI.length<=500000) (hj:s.out.ay.length<=900000):Spec ucC w0 200 [ptr gn 0,.agg r.cells.toArray] (aK gn 195 (bN s d s.out)*rows 28 3 Rec.cells d.vr s.aI) (λ_:Value=> .tuple #[]) (λvr=>aK gn 195 (bN (s.Qe r) {d with vr:=vr} (s.Qe r).out)*rows 28 3 Rec.cells vr (s.Qe r).aI):=by
 have p1:=mz w0 r;have yl:=Rec.dz r;refine eZ Tryz.func200 Tryz.ntmps200 λG=> ?_;obtain⟨o,a,q⟩:=r;simp only[aN,bN,Nd.Qe,ad,Rec.cells]at*
 repeat' (first|(refine hK _ ?_;clear hK K)|intro K hK|refine ax ?_|refine bT λg=> ?_)
 refine nC hK (λτ=>∃va,τ=⟨[(3,ptr g 0),(0,ptr gn 0)],[],aK g 28 [.bool o,u32 a,u32 q]*(aK gn 195 [u32 s.self,u32 s.seq,ptr d.tb 0,va,u64 s.cd,d.vs,d.vw,d.vq,.int .i64 s.last,u32 s.ids,u32 s.ff,d.vt,u64 s.now,aZ s.out.ay,.bool s.out.replace,d.vf,d.vc,d.vd,d.vh,u32 s.own]*(rows 28 3 Rec.cells va (s.aI++[⟨o,a,q⟩])*G))⟩) ?_ ?_
 ·refine rA (aK g 28 [.bool o,u32 a,u32 q]) _ [6,9,12] rfl ?_;refine ec 0 rfl (λF'=>by exact bC rfl) ?_;refine ec 2 rfl (λF'=>by exact bC rfl) ?_;refine ec 3 rfl (λF'=>by exact db rfl) ?_;refine ec 4 rfl (λF'=>by first|exact bq rfl iI rfl|exact eG rfl iI iI rfl (by first|assumption|omega)) ?_;refine yQ 5 rfl (λF'=>by first|exact ca rfl iI iI rfl|exact kZ rfl iI iI rfl|exact lg rfl iI iI iI (by assumption) rfl|exact ja rfl iI iI iI (by assumption)) ?_;refine ec 7 rfl (λF'=>by first|exact ca rfl iI iI rfl|exact kZ rfl iI iI rfl|exact lg rfl iI iI iI (by assumption) rfl|exact ja rfl iI iI iI (by assumption)) ?_;refine ed [1,8] ⟨?_,?_,trivial⟩
  ·refine wb 1 rfl (fq Rec.cells iI iI) λx1=> ?_;refine ed [6,8] ⟨?_,?_,trivial⟩
   ·refine kx ?_;refine oD 6 rfl (dH (rows 28 3 Rec.cells d.vr s.aI) rfl rfl iI iI iI rfl iI iI cO (by first|omega|(simp;omega)) rfl) λx6=> ?_;refine ed [8] ⟨?_,trivial⟩;refine oD 8 rfl (au Rec.cells [⟨o,a,q⟩] iI iI iI rfl rfl rfl rfl rfl iI rfl rfl rfl) λx8=> ?_;refine ed [9] ⟨?_,trivial⟩;exact pae
   ·refine wb 8 rfl (au Rec.cells [⟨o,a,q⟩] iI iI iI rfl rfl rfl rfl rfl iI rfl rfl rfl) λx8=> ?_;exact pbI
  ·refine wb 8 rfl (au Rec.cells [⟨o,a,q⟩] iI iI iI rfl rfl rfl rfl rfl iI rfl rfl rfl) λx8=> ?_;refine ed [1] ⟨?_,trivial⟩;refine wb 1 rfl (fq Rec.cells iI iI) λx1=> ?_;exact pbI
 ·clear hK K;rintro τ ⟨va,rfl⟩;repeat' (first|refine ae (id:=2) (.range 13) 12 [5,6] ?_|refine zaN (id:=2) 0 3 (.range 13) 12 [5] ?_|refine ax ?_|((first|refine' bP rfl rfl rfl ?zh ?_|refine' bk rfl rfl ?zh ?_);case zh=>intro F';exact kP rfl rfl (by first|omega|(simp[al]<;>omega)))|refine bQ λg=> ?_|refine cZ p1 λu1=> ?_)
  exact aj (.inr rfl) rfl ⟨va,rfl,ah⟩
end
section
open Go.RowKit
theorem Spec.sliced {P w0 f args X Y α e size g} {l:List α} (h:Spec P w0 f args X (λv:Value=>v) (λv=>rows e size g v l*Y)):Spec P w0 f args X (λs:Option Addr×Nat=> .slice s.1 l.length s.2) (λs=>rows e size g (.slice s.1 l.length s.2) l*Y):=λG w hs=>(h G w hs).mono λe w' ⟨x,he,hx⟩=>by
 have qb:=hx;rw[ad]at qb;obtain⟨A,c,rfl⟩:=gz qb;exact⟨(A,c),he,hx⟩
theorem Cp {l:List Rec} {k} {z:Rec} (h:l[k]? =some z) (a q):gH (l.take (k+1)) a q=(gH (l.take k) a q||(decide (z.addr=a)&&decide (q<=z.seq))):=by
 rw[AP,h];simp[gH]
theorem CT {L:List Ln} {i l} (h:L[i]? =some l) (s):(L.take (i+1)).foldl Nd.cf s=((L.take i).foldl Nd.cf s).cf l:=by
 rw[AP,h];simp
theorem Twin.Mj {W:TW} {s:Nd} {d:RD} (h:Twin W s d) (ok:aW s.ls):d.held.length<=8:=by
 have hn:(d.held.map (·.addr)).Nodup:=by
  rw[ZS,ZY];refine(ucq.1 h.mY.fH).imp ?_;rintro a b ⟨ha,hb,bW⟩ e;have na:=h.mY.norm a ha;have nb:=h.mY.norm b hb;exact tP na nb bW ((Rec.oT na nb).2 ⟨by rw[(h.kg a ha).1,(h.kg b hb).1],e⟩)
 have hs:d.held.map (·.addr)⊆ aO s.ls:=by
  intro x hx;obtain⟨r,hr,rfl⟩:=HC.1 hx;obtain⟨_,l,hl,he⟩:=h.kg r hr;rw[<-he];exact YY hl
 have:=ubF hn hs;simp only[Hu,aO]at this;have:=ok.short;omega
attribute [local irreducible] WS LS OpQ y6 cn cv Spec bA aK di cq
variable (w0:World)
theorem qS (W gn) (s:Nd) (ok:aW s.ls) (hr:s.aI.length<=400000) (hj:s.out.ay.length<=800000):Spec ucC w0 151 [ptr gn 0] (qe W gn s) (λ_:Unit=> .tuple #[]) (λ_=>qe W gn s.note):=by
 refine eZ Tryz.func151 Tryz.ntmps151 λG=> ?_;simp only[aN];refine rz (W:=W) (g:=gn) (s:=s) iI λd tw=> ?_;unfold cR bc cy;simp only[ad];refine mP (g:=d.tb) (self:=s.self) (ls:=s.ls) iI λv xs hR=> ?_;unfold eA;simp only[ad];have Ly:=hR.list ok;have Hs:=hR.length;have ta:=ok.short;repeat' (first|(refine hK _ ?_;clear hK K)|(show WS _ _ _ (.seq (.seq (.region 0 _ _) _) _) _ _;refine ab ?_;intro K hK;refine nC hK (λτ=>∃(s1:Nd) (vr:Value),s1=s.dh/\Twin W s1 {d with vr:=vr}/\s1.aI.length<=s.aI.length+1/\s1.out.ay.length<=s.out.ay.length+13/\τ=⟨[(0,ptr gn 0)],[],aK gn 195 (bN s1 {d with vr:=vr} s1.out)*(rows 28 3 Rec.cells vr s1.aI*(rows 28 3 Rec.cells d.vh d.held*(aK d.tb 197 [u32 s.self,v]*(rows 53 7 bJ v xs*(cQ xs*(rows 48 2 dA d.vf s.out.aJ*(rows 70 2 dA d.vc s.out.cj*(rows 166 1 lr d.vd s.out.dropped*(cc d.vs d.vw d.vq d.vt d.seen d.wait d.search d.aP*G)))))))))⟩) ?_ ?_)|refine ag (id:=0) (.range 9) ?_|refine ab λK hK=> ?_|refine ax ?_|(refine aF ?_ ?_<;>intro hc<;>try exact aG)|((first|refine dn rfl rfl iI rfl ?_ ?_|refine dm rfl rfl iI rfl ?_ ?_|refine dU rfl rfl iI rfl ?_ ?_)<;>intro hc)|refine bQ λg=> ?_)
 ·have bW:s.own<s.seq:=uaM hc;have p1:=sF w0 gn {s with own:=s.seq} d ⟨true,0,s.seq⟩ (by show s.aI.length<=500000;omega) (by show s.out.ay.length<=900000;omega);simp only[bN,Nd.Qe,Rec.cells]at p1;repeat' (first|refine ax ?_|refine cZ p1 λva=> ?_)
  have e1:s.dh=s.write ⟨true,0,s.seq⟩:=by unfold Nd.dh;rw[jF bW]
  exact⟨_,⟨s.write ⟨true,0,s.seq⟩,va,e1.symm,tw.own _ rfl va,by show(s.aI++[_]).length<=_;simp,by show(s.out.ay++Rec.bytes _).length<=_;rw[pU,Rec.dz];omega,rfl⟩,⟨rfl,trivial⟩,rfl,by simp only[bN,Nd.write,YZ,AT,VC];exact ah⟩
 ·have e1:s.dh=s:=by unfold Nd.dh;rw[eQ (ub2 (by assumption))]
  exact⟨_,⟨s,d.vr,e1.symm,tw,by omega,by omega,rfl⟩,⟨rfl,trivial⟩,rfl,by simp only[bN];exact ah⟩
 rintro τ ⟨s1,YS,e1,uO,S0,IC,rfl⟩;have YL:s.fz s1:=by rw[e1];exact Nd.fz.dh s
 repeat' (first|(refine hK _ ?_;clear hK K)|intro K hK|refine ax ?_)
 refine aV (λkk τ=>∃(i:Nat) (s':Nd) (vr vh:Value) (hl:List Rec),i+kk=xs.length/\s'=((cE s.ls).take i).foldl Nd.cf s1/\Twin W s' {d with vr:=vr,vh:=vh,held:=hl}/\s'.aI.length<=s.aI.length+1+i/\s'.out.ay.length<=s.out.ay.length+13*(1+i)/\τ=⟨[(2,.int .i64 (i:Int)),(0,ptr gn 0)],[],aK gn 195 (bN s' {d with vr:=vr,vh:=vh} s'.out)*(rows 28 3 Rec.cells vr s'.aI*(rows 28 3 Rec.cells vh hl*(aK d.tb 197 [u32 s.self,v]*(rows 53 7 bJ v xs*(cQ xs*(rows 48 2 dA d.vf s.out.aJ*(rows 70 2 dA d.vc s.out.cj*(rows 166 1 lr d.vd s.out.dropped*(cc d.vs d.vw d.vq d.vt d.seen d.wait d.search d.aP*G)))))))))⟩) ?_ ?_
 ·exact⟨xs.length,_,⟨0,s1,YS,d.vh,d.held,by omega,rfl,uO,by omega,by omega,rfl⟩,cG,rfl,ah⟩
 rintro kk τ ⟨i,s',vr,vh,hl,qE,eI,LC,Wg,Za,rfl⟩;have Re:s'.ls=s.ls:=by rw[eI,(Nd.fz.oW _ _).ls,YL.ls]
 have Y7:hl.length<=8:=LC.Mj (by rw[Re];exact ok);rcases jP i xs.length with h|h
 ·have h1:(i:Int)<(xs.length:Int):=by omega
  obtain⟨p,hp⟩:∃p,xs[i]? =some p:=⟨_,aX h⟩
  have Mn:(cE s.ls)[i]? =some p.1:=by rw[<-Ly,zA,hp];rfl
  have Rl:p.1∈s'.ls:=by rw[Re];exact hR.mem (jq hp)
  have jf:=CT Mn s1;rw[<-eI]at jf;have Kc:=LC.cf p.1;simp only[bN];repeat' (first|(refine hK _ ?_;clear hK K)|refine ae (id:=6) (.range 25) 24 [3,6,8,9,10,14,17,19,20,21] ?_|intro K hK|intro hc|refine xyZ ?_|refine aF ?_ ?_|refine zw3 λg=> ?_|refine bQ λg=> ?_)
  rename_i gx;refine aV (λxx τ=>∃(k:Nat),k+xx=hl.length/\τ=⟨[(5,.int .i64 (k:Int)),(4,.bool (gH (hl.take k) p.1.dest p.1.seq)),(3,ptr gx 0),(2,.int .i64 (i:Int)),(0,ptr gn 0)],[],aK gx 28 [.bool false,u32 p.1.dest,u32 p.1.seq]*(aK gn 195 (bN s' {d with vr:=vr,vh:=vh} s'.out)*(rows 28 3 Rec.cells vr s'.aI*(rows 28 3 Rec.cells vh hl*(aK d.tb 197 [u32 s.self,v]*(rows 53 7 bJ v xs*(cQ xs*(rows 48 2 dA d.vf s.out.aJ*(rows 70 2 dA d.vc s.out.cj*(rows 166 1 lr d.vd s.out.dropped*(cc d.vs d.vw d.vq d.vt d.seen d.wait d.search d.aP*G))))))))))⟩) ?_ ?_
  ·exact⟨hl.length,_,⟨0,by omega,rfl⟩,cG,rfl,by simp only[bN];exact ah⟩
  ·rintro xx τ ⟨k,hkk,rfl⟩;simp only[bN];rcases jP k hl.length with hk|hk
   ·have Cg:(k:Int)<(hl.length:Int):=by omega
    obtain⟨z,hz⟩:∃z,hl[k]? =some z:=⟨_,aX hk⟩
    have ht:=Cp hz p.1.dest p.1.seq;generalize hb:gH (hl.take k) p.1.dest p.1.seq=b at*
    cases b with
    |true=>
     rw[Bool.true_or]at ht;repeat' (first|(refine hK _ ?_;clear hK K)|refine ag (id:=11) (.range 28) ?_|intro K hK|intro hc|refine xyZ ?_|refine aF ?_ ?_)
     --tg
     exact⟨xx - 1,_,by omega,⟨k+1,by omega,rfl⟩,⟨rfl,by rw[ht];rfl,rfl,rfl,rfl,trivial⟩,rfl,by simp only[bN];exact ah⟩
    |false=>
     rw[uaI]at ht;by_cases h2:z.addr=p.1.dest
     ·by_cases h3:p.1.seq<=z.seq
      ·rw[Dp h2,Dp h3,ucb]at ht;repeat' (first|(refine hK _ ?_;clear hK K)|refine ag (id:=11) (.range 28) ?_|intro K hK|intro hc|refine xyZ ?_|refine aF ?_ ?_)
       exact⟨xx - 1,_,by omega,⟨k+1,by omega,rfl⟩,⟨rfl,by rw[ht];rfl,rfl,rfl,rfl,trivial⟩,rfl,by simp only[bN];exact ah⟩
      ·rw[EH h3,uaR]at ht;repeat' (first|(refine hK _ ?_;clear hK K)|refine ag (id:=11) (.range 28) ?_|intro K hK|intro hc|refine xyZ ?_|refine aF ?_ ?_)
       exact⟨xx - 1,_,by omega,⟨k+1,by omega,rfl⟩,⟨rfl,by rw[ht];rfl,rfl,rfl,rfl,trivial⟩,rfl,by simp only[bN];exact ah⟩
     ·rw[EH h2,uan]at ht;repeat' (first|(refine hK _ ?_;clear hK K)|refine ag (id:=11) (.range 28) ?_|intro K hK|intro hc|refine xyZ ?_|refine aF ?_ ?_)
      exact⟨xx - 1,_,by omega,⟨k+1,by omega,rfl⟩,⟨rfl,by rw[ht];rfl,rfl,rfl,rfl,trivial⟩,rfl,by simp only[bN];exact ah⟩
   ·obtain rfl:k=hl.length:=by omega
    have Cg:¬(hl.length:Int)<(hl.length:Int):=by omega
    rw[PE];generalize hb:gH hl p.1.dest p.1.seq=b at*
    cases b with
    |true=>
     rw[jF rfl]at Kc;repeat' (first|(refine hK _ ?_;clear hK K)|intro K hK|intro hc|refine xyZ ?_|refine aF ?_ ?_)
     exact⟨kk - 1,_,by omega,⟨i+1,s',vr,vh,hl,by omega,by rw[jf,Kc],LC,by omega,by omega,rfl⟩,cG,rfl,by simp only[bN];exact ah⟩
    |false=>
     rw[eQ (by decide)]at Kc;have lD:=λva vb=>(LC.line Rl va vb).resolve_right (by show ¬gH hl p.1.dest p.1.seq=true;rw[hb];decide);have pc:=λv=>(mI w0 ([]++hl++[⟨false,p.1.dest,p.1.seq⟩]) (by simp;omega) v (rows 28 3 Rec.cells v ([]++hl++[⟨false,p.1.dest,p.1.seq⟩]))).sliced;have p2:=λvb=>sF w0 gn s' {d with vr:=vr,vh:=vb} ⟨false,p.1.dest,p.1.seq⟩ (by omega) (by omega);simp only[bN,Nd.Qe,Rec.cells]at p2;repeat' (first|(refine hK _ ?_;clear hK K)|intro K hK|intro hc|refine xyZ ?_|refine aF ?_ ?_)
     refine nC hK (λτ=>∃vb:Value,τ=⟨[(3,ptr gx 0),(2,.int .i64 (i:Int)),(0,ptr gn 0)],[],aK gx 28 [.bool false,u32 p.1.dest,u32 p.1.seq]*(aK gn 195 (bN s' {d with vr:=vr,vh:=vb} s'.out)*(rows 28 3 Rec.cells vr s'.aI*(rows 28 3 Rec.cells vb (cC (hl++[gB p.1.dest p.1.seq]))*(aK d.tb 197 [u32 s.self,v]*(rows 53 7 bJ v xs*(cQ xs*(rows 48 2 dA d.vf s.out.aJ*(rows 70 2 dA d.vc s.out.cj*(rows 166 1 lr d.vd s.out.dropped*(cc d.vs d.vw d.vq d.vt d.seen d.wait d.search d.aP*G))))))))))⟩) ?_ ?_
     ·simp only[bN];refine rA (aK gx 28 [.bool false,u32 p.1.dest,u32 p.1.seq]) _ [6,9,10,13] rfl ?_;refine ec 0 rfl (λF'=>by exact bC rfl) ?_;refine ec 2 rfl (λF'=>by exact bC rfl) ?_;refine ec 3 rfl (λF'=>by exact db rfl) ?_;refine ec 4 rfl (λF'=>by first|exact bq rfl iI rfl|exact eG rfl iI iI rfl (by first|assumption|omega)) ?_;refine yQ 5 rfl (λF'=>by first|exact ca rfl iI iI rfl|exact kZ rfl iI iI rfl|exact lg rfl iI iI iI (by assumption) rfl|exact ja rfl iI iI iI (by assumption)) ?_;refine ec 7 rfl (λF'=>by first|exact ca rfl iI iI rfl|exact kZ rfl iI iI rfl|exact lg rfl iI iI iI (by assumption) rfl|exact ja rfl iI iI iI (by assumption)) ?_;refine ed [1,8] ⟨?_,?_,trivial⟩
      ·refine wb 1 rfl (fq Rec.cells iI iI) λx1=> ?_;refine ed [6,8] ⟨?_,?_,trivial⟩
       ·refine kx ?_;refine oD 6 rfl (dH (rows 28 3 Rec.cells vh hl) rfl rfl iI iI iI rfl iI iI cO (by first|omega|(simp;omega)) rfl) λx6=> ?_;refine ed [8] ⟨?_,trivial⟩;refine oD 8 rfl (au Rec.cells [⟨false,p.1.dest,p.1.seq⟩] iI iI iI rfl rfl rfl rfl rfl iI rfl rfl rfl) λx8=> ?_;refine ed [9] ⟨?_,trivial⟩;refine oD 9 rfl (aR rfl rfl iI iI rfl iI iI cO (by first|omega|(simp;omega)) rfl) λx9=> ?_;refine ed [10] ⟨?_,trivial⟩;refine oD 10 rfl (aa iI rfl (pc x9) iI) λNR=> ?_;refine ec 11 rfl (λF'=>by exact db rfl) ?_;refine ec 12 rfl (λF'=>by first|exact bq rfl iI rfl|exact eG rfl iI iI rfl (by first|assumption|omega)) ?_;refine ed [13] ⟨?_,trivial⟩;refine uo 13 rfl (kV rfl rfl iI rfl iI rfl) λWM=> ?_;refine oE ?_;exact⟨_,⟨.slice NR.1 (cC (hl++[gB p.1.dest p.1.seq])).length NR.2,rfl⟩,cG,rfl,by simp only[zF,gB];exact ah⟩
       ·refine wb 8 rfl (au Rec.cells [⟨false,p.1.dest,p.1.seq⟩] iI iI iI rfl rfl rfl rfl rfl iI rfl rfl rfl) λx8=> ?_;refine ed [6] ⟨?_,trivial⟩;refine kx ?_;refine oD 6 rfl (dH (rows 28 3 Rec.cells vh hl) rfl rfl iI iI iI rfl iI iI cO (by first|omega|(simp;omega)) rfl) λx6=> ?_;refine ed [9] ⟨?_,trivial⟩;refine oD 9 rfl (aR rfl rfl iI iI rfl iI iI cO (by first|omega|(simp;omega)) rfl) λx9=> ?_;refine ed [10] ⟨?_,trivial⟩;refine oD 10 rfl (aa iI rfl (pc x9) iI) λNR=> ?_;refine ec 11 rfl (λF'=>by exact db rfl) ?_;refine ec 12 rfl (λF'=>by first|exact bq rfl iI rfl|exact eG rfl iI iI rfl (by first|assumption|omega)) ?_;refine ed [13] ⟨?_,trivial⟩;refine uo 13 rfl (kV rfl rfl iI rfl iI rfl) λWM=> ?_;refine oE ?_;exact⟨_,⟨.slice NR.1 (cC (hl++[gB p.1.dest p.1.seq])).length NR.2,rfl⟩,cG,rfl,by simp only[zF,gB];exact ah⟩
      ·refine wb 8 rfl (au Rec.cells [⟨false,p.1.dest,p.1.seq⟩] iI iI iI rfl rfl rfl rfl rfl iI rfl rfl rfl) λx8=> ?_;refine ed [1] ⟨?_,trivial⟩;refine wb 1 rfl (fq Rec.cells iI iI) λx1=> ?_;refine ed [6] ⟨?_,trivial⟩;refine kx ?_;refine oD 6 rfl (dH (rows 28 3 Rec.cells vh hl) rfl rfl iI iI iI rfl iI iI cO (by first|omega|(simp;omega)) rfl) λx6=> ?_;refine ed [9] ⟨?_,trivial⟩;refine oD 9 rfl (aR rfl rfl iI iI rfl iI iI cO (by first|omega|(simp;omega)) rfl) λx9=> ?_;refine ed [10] ⟨?_,trivial⟩;refine oD 10 rfl (aa iI rfl (pc x9) iI) λNR=> ?_;refine ec 11 rfl (λF'=>by exact db rfl) ?_;refine ec 12 rfl (λF'=>by first|exact bq rfl iI rfl|exact eG rfl iI iI rfl (by first|assumption|omega)) ?_;refine ed [13] ⟨?_,trivial⟩;refine uo 13 rfl (kV rfl rfl iI rfl iI rfl) λWM=> ?_;refine oE ?_;exact⟨_,⟨.slice NR.1 (cC (hl++[gB p.1.dest p.1.seq])).length NR.2,rfl⟩,cG,rfl,by simp only[zF,gB];exact ah⟩
     ·clear hK K;rintro τ ⟨vb,rfl⟩;simp only[bN];repeat' (first|refine ax ?_|refine cZ (p2 vb) λva=> ?_)
      exact⟨kk - 1,_,by omega,⟨i+1,s'.write ⟨false,p.1.dest,p.1.seq⟩,va,vb,cC (hl++[gB p.1.dest p.1.seq]),by omega,by rw[jf,Kc],lD va vb,by show(s'.aI++[_]).length<=_;simp;omega,by show(s'.out.ay++Rec.bytes _).length<=_;rw[pU,Rec.dz];omega,rfl⟩,cG,rfl,by simp only[bN,Nd.write,YZ,AT,VC];exact ah⟩
 ·obtain rfl:i=xs.length:=by omega
  have h1:¬(xs.length:Int)<(xs.length:Int):=by omega
  have xh:s'=s.note:=by
   rw[eI,e1];have yz:(cE s.ls).length=xs.length:=by rw[<-Ly,Hu]
   rw[<-yz,PE];unfold Nd.note;rfl
  have sm:=Nd.fz.note s;simp only[bN];repeat' (first|(refine hK _ ?_;clear hK K)|intro K hK|intro hc|refine xyZ ?_|refine aF ?_ ?_)
  refine aj (.inr rfl) rfl ⟨(),rfl,?_⟩;subst xh;refine aq.rn LC ?_;unfold cR bc cy;simp only[ad,bN,sm.aJ,sm.cj,sm.dropped,sm.self,sm.ls];have fin:∀A B C Z:af,aq (A*(B*(C*(aK d.tb 197 [u32 s.self,v]*(rows 53 7 bJ v xs*(cQ xs*Z)))))) (A*(B*(C*(ct d.tb s.self s.ls*Z)))):=λA B C Z=>aq.tail _ (aq.tail _ (aq.tail _ (aq.ct hR (by unfold eA;exact ah))));exact fin _ _ _ _
end
section
open Go.RowKit
def j9 (W:TW) (g:Nat) (s:Nd):af:=hex λx:RD×dS=>pure' (Twin W s x.1)*(aK g 195 (bN s x.1 x.2)*(rows 28 3 Rec.cells x.1.vr s.aI*(rows 28 3 Rec.cells x.1.vh x.1.held*(ct x.1.tb s.self s.ls*bc x.1))))
theorem wB {P n w0 E D H F c Q W g} {s:Nd} (hl:Own H (j9 W g s) F) (h:∀d o,Twin W s d->WS P n w0 c Q ⟨E,D,aK g 195 (bN s d o)*(rows 28 3 Rec.cells d.vr s.aI*(rows 28 3 Rec.cells d.vh d.held*(ct d.tb s.self s.ls*(bc d*F))))⟩):WS P n w0 c Q ⟨E,D,H⟩:=by
 rw[hl.eq];unfold j9;refine iU λx=> ?_;rw[ad];refine jR λhr=> ?_;rw[ad,ad,ad,ad];exact h x.1 x.2 hr
theorem aq.j9 {W g} {s:Nd} {d:RD} (o) {H F} (t:Twin W s d) (h:aq H (aK g 195 (bN s d o)*(rows 28 3 Rec.cells d.vr s.aI*(rows 28 3 Rec.cells d.vh d.held*(Go.Proofs.YtapoehkdnglahabGreat.ct d.tb s.self s.ls*(bc d*F)))))):aq H (j9 W g s*F):=
 aq.trans h (aq.trans (aq.ji t (aq.refl _)) (aq.trans (aq.of_eq (by ac_rfl)) (aq.qA (p:=λx:RD×dS=>pure' (Twin W s x.1)*(aK g 195 (bN s x.1 x.2)*(rows 28 3 Rec.cells x.1.vr s.aI*(rows 28 3 Rec.cells x.1.vh x.1.held*(Go.Proofs.YtapoehkdnglahabGreat.ct x.1.tb s.self s.ls*bc x.1))))) (d,o))))
theorem Twin.begin {W:TW} {s:Nd} {d} (h:Twin W s d) (now:UInt64) (hn:s.now.toNat<=now.toNat) (vf vc vd o):Twin W.next {s with now:=now,out:=o,ls:=mE now s.ls} {d with vf:=vf,vc:=vc,vd:=vd}:=by
 have h7:s.ids.toNat<=W.i0+5+dJ now s.aP:=by
  have h1:=h.oy;have h2:dJ s.now s.aP<=s.aP.length:=rK _ _;have h3:s.aP.length<=5:=by rw[h.aP,uK];omega
  omega
 refine⟨h.held,h.mY,λx hx=> ?_,h.seen,h.o9,h.oz,h.o7,h.wait,h.mL,h.hP,h.search,h.jT,h.Br,h.fN,h.aP,h.oA,λt ht=>WA (h.ns t ht) hn,h.nX,h.DB,h.Bp,h.FP,h7⟩;obtain⟨h1,l,h2,h3⟩:=h.kg x hx;obtain⟨l',h4,h5⟩:=oI (ls:=s.ls) (IF:=mE now s.ls) (λy hy=>by rw[zc];exact hy) l h2;exact⟨h1,l',h4,h5.trans h3⟩
attribute [local irreducible] WS LS OpQ y6 cn cv Spec bA aK di cq
variable (w0:World)
theorem mv (W:TW) (gn) (s:Nd) (ok:aW s.ls) (hr:s.aI.length<=400000) (now:UInt64) (hn:s.now.toNat<=now.toNat):Spec ucC w0 101 [ptr gn 0,u64 now] (j9 W gn s) (λ_:Unit=> .tuple #[]) (λ_=>qe W.next gn (s.begin now)):=by
 refine eZ Tryz.func101 Tryz.ntmps101 λG=> ?_;simp only[aN];refine wB (W:=W) (g:=gn) (s:=s) iI λd o tw=> ?_;obtain⟨s1,iu⟩:∃s1:Nd,s1={s with now:=now,out:=dS.zero,ls:=mE now s.ls}:=⟨_,rfl⟩
 have eb:s.begin now=s1.note:=by rw[iu];rfl
 have p1:=KT w0 d.tb s.self s.ls ok now;have p2:=qS w0 W.next gn s1 (by rw[iu];exact ok.exp now) (by rw[iu];exact hr) (by rw[iu];simp[dS.zero]);have uO:=tw.begin now hn (.slice none 0 0) (.slice none 0 0) (.slice none 0 0) dS.zero;rw[<-iu]at uO;simp only[bN];repeat' (first|intro K hK|refine ax ?_|refine bQ λg=> ?_|refine cZ p1 λu1=> ?_)
 refine fJ (aq.nil _ 48 2 dA none) ?_;refine fJ (aq.nil _ 70 2 dA none) ?_;refine fJ (aq.nil _ 166 1 lr none) ?_;refine fJ (H':=qe W.next gn s1*G) (aq.rn uO (by rw[iu];unfold cR cy;simp only[bN,dS.zero,ad];exact ah)) ?_;repeat' (first|refine ax ?_|refine cZ p2 λu2=> ?_)
 exact aj (.inr rfl) rfl ⟨(),rfl,by rw[eb];exact ah⟩
theorem nS (W gn) (s:Nd) (ok:aW s.ls) (hr:s.aI.length<=9000) (hj:s.out.ay.length<=800000):Spec ucC w0 102 [ptr gn 0] (qe W gn s) (λv:Value×Value×Value=>fp s.done.out v) (λv=>j9 W gn s.done*r5 s.done.out v):=by
 refine eZ Tryz.func102 Tryz.ntmps102 λG=> ?_;simp only[aN];have p1:=qS w0 W gn s ok (by omega) hj;have vT:=Nd.nj s ok;have Dy:=zad s.note.aI;repeat' (first|intro K hK|refine ax ?_|refine bT λg=> ?_|refine cZ p1 λu1=> ?_)
 refine kA (W:=W) (g:=gn) (s:=s.note) iI λd tw=> ?_;unfold cR cy;simp only[bN,ad];by_cases hm:24<s.note.aI.length
 ·have p5:=λv=>(mI w0 s.note.aI (by omega) v (rows 28 3 Rec.cells v s.note.aI)).sliced;have p6:=λv=>qq w0 (cC s.note.aI) (by omega) v (rows 28 3 Rec.cells v (cC s.note.aI));have hd:s.done={s.note with aI:=cC s.note.aI,out:={s.note.out with ay:=b9 (cC s.note.aI),replace:=true}}:=by unfold Nd.done;rw[jF hm]
  have lD:∀vr,Twin W s.done {d with vr:=vr}:=λvr=>by
   rw[hd];exact⟨tw.held,tw.mY,tw.kg,tw.seen,tw.o9,tw.oz,tw.o7,tw.wait,tw.mL,tw.hP,tw.search,tw.jT,tw.Br,tw.fN,tw.aP,tw.oA,tw.ns,tw.nX,tw.DB,tw.Bp,tw.FP,tw.oy⟩
  repeat' (first|intro hc|refine yZ ?_|refine aF ?_ ?_|(refine ai (aa iI rfl (p5 _) iI) rfl ?_;intro vc)|(refine ai (aa iI rfl (p6 _) iI) rfl ?_;intro vb))
  --tg
  refine gD (.inl rfl) rfl (aS rfl iI iI rfl) ⟨(d.vf,d.vc,d.vd),by rw[hd];rfl,?_⟩;rw[ad];refine aq.j9 s.done.out (lD (.slice vc.1 (cC s.note.aI).length vc.2)) ?_;rw[hd];unfold r5 bc;simp only[bN];exact ah
 ·have hd:s.done=s.note:=by unfold Nd.done;rw[eQ hm]
  repeat' (first|intro hc|refine yZ ?_|refine aF ?_ ?_)
  refine gD (.inl rfl) rfl (aS rfl iI iI rfl) ⟨(d.vf,d.vc,d.vd),by rw[hd];rfl,?_⟩;rw[hd,ad];refine aq.j9 s.note.out tw ?_;unfold r5;simp only[bN];exact ah
end
section
open Go.RowKit
section
variable {P:Program} {n:fT} {w0:World} {E:Env} {D:List Deferred} {H F R L:af}
theorem uq {α:Type} {t e:TypeId} {size bytes:Nat} {g g':α->List Value} {v u:Value} {l ys:List α} {F1:af} {d:Option Tmp} {ty:TypeId} {pos:String} {after:Array Edge} {gu:Option (Nat×Bool)} {x y:Operand} (N:Nat) (hN:(l++ys).length=N) (hx:E.ev x=some v) (hy:E.ev y=some u) (hl:dD F v α e size g l F1) (hX:eX w0 R u α size g' ys) (Hj:g'=g) (hT:lj P t e size bytes) (hf:cY g size) (h1:∀z,∀c∈g z,c.oneCell'=true) (hn:l.length+ys.length<=1000000) (uX:Nat.ble bytes 1000=true):
 cn P n w0 ⟨d,.call ⟨.builtin .append,#[x,y],#[t,t]⟩,ty,pos,after,gu⟩ E (R*F) (λs:Option Addr×Nat=> .slice s.1 N s.2) (λs=>R*(rows e size g (.slice s.1 N s.2) (l++ys)*F1)):=by
 have yz:dD (R*F) v α e size g l (R*F1):=⟨by rw[hl.eq,aM]⟩
 exact(cn.form N hN (dH R hx hy yz hX ⟨rfl⟩ Hj hT hf h1 hn uX)).zbB λs=>⟨s,rfl,aq.of_eq (aM _ _ _)⟩
end
def nY (l:List Sk) (d:UInt32):Option Nat:=l.findIdx? λx=>x.dest=d
def qc:Option Nat->Int
 |some i=>(i:Int)
 |none=> -1
attribute [local irreducible] WS LS OpQ y6 cn cv Spec bA aK di cq
variable (w0:World)
theorem xV (gn:Nat) (s:Nd) (d:RD) (ok:aW s.ls) (hf:s.Fit 1) (dest:UInt32) (tx:cP) (ht:tx.length<=1000):Spec ucC w0 138 [ptr gn 0,u32 dest,aZ tx] (cR gn s d) (λ_:Value=> .bool (bR s.ls dest s.now).isSome) (λv=>cR gn (s.hand dest tx) {d with vf:=v}):=by
 refine eZ Tryz.func138 Tryz.ntmps138 λG=> ?_;have p1:=nU w0 d.tb s.self s.ls ok dest s.now;have p2:=λto=>o5 w0 gn {s with ff:=s.ff+1} d to ⟨8,9,0,false,s.ff+1,dest,0,s.self,0,0,[],tx⟩ ⟨by simp[cM],by simp[cM],by simp[cM],by simp,by simp only;omega⟩ rfl ⟨hf.aJ,hf.cj,hf.dropped,hf.aI,hf.ay⟩;have p3:=Df w0 d.tb s.self s.ls ok dest (s.now+3000);unfold cR at*
 unfold Nd.hand Nd.ir;simp only[aN,bN,ad,Pk.val,Pk.cells]at p1 p2 p3 ⊢;cases hx:bR s.ls dest s.now with
 |none=>
  simp only[hx,eY,sH]at p1 ⊢;repeat' (first|refine nA (id:=1) 0 (.range 16) ?_|refine ae (id:=1) (.range 16) 9 [3,8] ?_|refine zaN (id:=1) 7 0 (.range 16) 14 [] ?_|intro hc|refine yZ ?_|refine aF ?_ ?_|refine zw3 λg=> ?_|refine cZ p1 λx1=> ?_)
  exact aC (.inl rfl) rfl rfl ⟨d.vf,rfl,ah⟩
 |some x=>
  simp only[hx,eY,uz,bM]at p1 ⊢;replace p2:=p2 x.next;simp only[Nd.send,cy,bc,ad]at p2 ⊢;repeat' (first|refine nA (id:=1) 0 (.range 16) ?_|refine ae (id:=1) (.range 16) 9 [3,8] ?_|refine zaN (id:=1) 7 0 (.range 16) 14 [] ?_|refine ae (id:=5) (.range 15) 14 [2,6,11] ?_|refine ae (id:=6) (.range 11) 10 [3,8] ?_|intro hc|refine yZ ?_|refine aF ?_ ?_|refine zw3 λg=> ?_|refine zw6 ?_|(refine cZ p1 λx1=> ?_;clear p1)|(refine cZ p2 λx2=> ?_;clear p2)|refine cZ p3 λx3=> ?_)
  exact aC (.inl rfl) rfl rfl ⟨x2,rfl,ah⟩
theorem kR (gn) (QE pV:List Value) (v) (l:List Sk) (hl:l.length<=100000) (hc:QE.length=7) (dest):Spec ucC w0 139 [ptr gn 0,u32 dest] (aK gn 195 (QE++v::pV)*rows 210 6 skC v l) (λ_:Unit=> .int .i64 (qc (nY l dest))) (λ_=>aK gn 195 (QE++v::pV)*rows 210 6 skC v l):=by
 refine eZ Tryz.func139 Tryz.ntmps139 λG=> ?_;obtain⟨c0,c1,c2,c3,c4,c5,c6,rfl⟩:∃c0 c1 c2 c3 c4 c5 c6,QE=[c0,c1,c2,c3,c4,c5,c6]:=by
  match QE,hc with
  |[c0,c1,c2,c3,c4,c5,c6],_=>exact⟨c0,c1,c2,c3,c4,c5,c6,rfl⟩
 simp only[aN,YW,zF,ad];repeat' (first|intro K hK|refine ax ?_)
 refine aV (λkk τ=>∃(i:Nat),i+kk=l.length/\(∀x∈l.take i,x.dest≠dest)/\τ=⟨[(5,.int .i64 (i:Int)),(1,u32 dest),(0,ptr gn 0)],[],aK gn 195 ([c0,c1,c2,c3,c4,c5,c6,v]++pV)*(rows 210 6 skC v l*G)⟩) ?_ ?_
 ·exact⟨l.length,_,⟨0,by omega,by simp,rfl⟩,cG,rfl,by simp only[YW,zF];exact ah⟩
 rintro kk τ ⟨i,qE,zt,rfl⟩;simp only[YW,zF];rcases jP i l.length with h|h
 ·have h1:(i:Int)<(l.length:Int):=by omega
  obtain⟨z,hz⟩:∃z,l[i]? =some z:=⟨_,aX h⟩
  by_cases hd:z.dest=dest
  ·have hf:nY l dest=some i:=by
    unfold nY;rw[uaq];refine⟨h,?_,λj hj=> ?_⟩
    ·have:=(az.1 hz).2;simp[this,hd]
    ·have:=zt l[j] (ub5.2 ⟨j,by omega,rfl⟩);simpa using this
   rw[hf];exact paO
  ·repeat' (first|intro K hK|intro hc|refine xyZ ?_|refine aF ?_ ?_)
   exact⟨kk - 1,_,by omega,⟨i+1,by omega,λx hx=>by
    rw[AP,hz]at hx
    rcases Lz.1 hx with hx|hx
    ·exact zt x hx
    ·simp at hx;subst hx;exact hd,rfl⟩,cG,rfl,by simp only[YW,zF];exact ah⟩
 ·have h1:¬(i:Int)<(l.length:Int):=by omega
  rw[Gz h]at zt;have hf:nY l dest=none:=by
   unfold nY;rw[ubg];intro x hx;simpa using zt x hx
  repeat' (first|intro K hK|intro hc|refine xyZ ?_|refine aF ?_ ?_)
  exact aC (.inl rfl) rfl rfl ⟨(),by rw[hf];rfl,ah⟩
theorem uH (gn s) (d:RD) (o) (l:List Sk) (hl:l.length<=100000) (i) (hi:i<l.length):Spec ucC w0 154 [ptr gn 0,.int .i64 (i:Int)] (aK gn 195 (bN s d o)*rows 210 6 skC d.vq l) (λ_:Value=> .tuple #[]) (λvq=>aK gn 195 (bN s {d with vq:=vq} o)*rows 210 6 skC vq (l.take i++l.drop (i+1))):=by
 refine eZ Tryz.func154 Tryz.ntmps154 λG=> ?_;simp only[aN,bN,ad];have zq:((i:Nat):Int)+1=((i+1:Nat):Int):=by omega
 refine rA (rows 210 6 skC d.vq l) (aK gn 195 [u32 s.self,u32 s.seq,ptr d.tb 0,d.vr,u64 s.cd,d.vs,d.vw,d.vq,.int .i64 s.last,u32 s.ids,u32 s.ff,d.vt,u64 s.now,aZ o.ay,.bool o.replace,d.vf,d.vc,d.vd,d.vh,u32 s.own]*G) [19] (by ac_rfl) ?_;refine ec 0 rfl (λF'=>by exact bC rfl) ?_;refine ec 2 rfl (λF'=>by exact bC rfl) ?_;refine ec 3 rfl (λF'=>by exact db rfl) ?_;refine ec 4 rfl (λF'=>by first|exact bq rfl iI rfl|exact eG rfl iI iI rfl (by first|assumption|omega)) ?_;refine yQ 5 rfl (λF'=>by first|exact ca rfl iI iI rfl|exact kZ rfl iI iI rfl|exact lg rfl iI iI iI (by assumption) rfl|exact ja rfl iI iI iI (by assumption)) ?_;refine ec 6 rfl (λF'=>by exact bC rfl) ?_;refine ec 7 rfl (λF'=>by first|exact dv rfl rfl iI iI iI iI (by first|assumption|omega)|exact cW rfl rfl iI iI iI iI (by first|assumption|omega)) ?_;refine ec 9 rfl (λF'=>by exact bC rfl) ?_;refine ec 10 rfl (λF'=>by exact db rfl) ?_;refine ec 11 rfl (λF'=>by first|exact bq rfl iI rfl|exact eG rfl iI iI rfl (by first|assumption|omega)) ?_;refine yQ 12 rfl (λF'=>by first|exact ca rfl iI iI rfl|exact kZ rfl iI iI rfl|exact lg rfl iI iI iI (by assumption) rfl|exact ja rfl iI iI iI (by assumption)) ?_;refine ec 13 rfl (λF'=>by exact bC rfl) ?_;refine ec 14 rfl (λF'=>by first|exact wj rfl rfl (by omega)|exact bE rfl rfl iI|exact kP rfl rfl (by first|omega|simp)) ?_;refine ec 15 rfl (λF'=>by first|exact dv rfl rfl iI iI iI iI (by first|assumption|omega)|exact cW rfl rfl iI iI iI iI (by first|assumption|omega)) ?_;refine ed [1] ⟨?_,trivial⟩;refine wb 1 rfl (fq skC iI iI) λx1=> ?_;refine ed [8] ⟨?_,trivial⟩;refine GC 8 rfl (ny rfl rfl iI iI rfl iI iI vY (by first|omega|(simp;omega)) rfl) λx8=> ?_;refine ed [16] ⟨?_,trivial⟩;refine GC 16 rfl (uq (l.take i++l.drop (i+1)).length (by simp) rfl rfl iI iI rfl iI iI vY (by first|omega|(simp;omega)) rfl) λTn=> ?_;exact pas
end
section
def cz (d:UInt32) (l:List (UInt32×cP)):List cP:=(l.filter λw=>decide (w.1=d)).map (·.2)
def kU (d:UInt32) (l:List (UInt32×cP)):List (UInt32×cP):=l.filter λw=>decide (w.1≠d)
theorem qM {d} {l:List (UInt32×cP)} {i z} (h:l[i]? =some z):cz d (l.take (i+1))=cz d (l.take i)++if z.1=d then [z.2]else []:=by
 unfold cz;rw[AP,h,uac,EZ];by_cases hz:z.1=d
 ·rw[jF hz];simp[hz]
 ·rw[eQ hz];simp[hz]
theorem xU {d} {l:List (UInt32×cP)} {i z} (h:l[i]? =some z):kU d (l.take (i+1))=kU d (l.take i)++if z.1=d then []else [z]:=by
 unfold kU;rw[AP,h,uac];by_cases hz:z.1=d
 ·rw[jF hz];simp[hz]
 ·rw[eQ hz];simp[hz]
theorem ud (d) (l:List (UInt32×cP)) (i):(kU d (l.take i)).length<=l.length:=by
 unfold kU;refine WA (uaQ _ _) ?_;rw[Aw];omega
theorem HB {d l} {i:Nat} {z} (h:l[i]? =some z) (hz:z.1=d):z.2∈cz d l:=by
 unfold cz;exact YY (uaf.2 ⟨jq h,by simpa using hz⟩)
theorem zC (d) (l:List (UInt32×cP)) (i):∃r,cz d l=cz d (l.take i)++r:=by
 refine⟨cz d (l.drop i),?_⟩;unfold cz;rw[<-EZ,<-uac,Jt]
theorem EI (d e l):cz e (kU d l)=if e=d then []else cz e l:=by
 unfold cz kU;rw[List.filter_filter];by_cases he:e=d
 ·subst he;rw[jF rfl];have:(l.filter λa=>decide (a.1=e)&&decide (a.1≠e))=[]:=by
   rw[ua3];intro a _ h;simp at h
  rw[this];rfl
 ·rw[eQ he];congr 1;refine List.filter_congr λa _=> ?_;by_cases ha:a.1=e
  ·simp[ha,he]
  ·simp[ha]
section
variable {W:TW} {s:Nd} {d:RD}
theorem Twin.Kp (h:Twin W s d) (dst):s.texts dst=cz dst d.wait:=h.wait dst
theorem Twin.hand (h:Twin W s d) (dst t vf):Twin W (s.hand dst t) {d with vf:=vf}:=by
 unfold Nd.hand;split
 ·exact h.to (Nd.Alike.refl s) rfl rfl rfl rfl rfl
 ·refine h.to (t:=_) ⟨rfl,rfl,oI λx hx=> ?_,rfl,rfl,rfl,rfl,rfl,rfl,rfl,rfl,rfl,rfl⟩ rfl rfl rfl rfl rfl;show x∈aO (iY s.ls dst s.ir);rw[gY];exact hx
theorem Twin.bg (h:Twin W s d) (dst l vf):Twin W (s.bg dst l) {d with vf:=vf}:=by
 induction l using eE with
 |nil=>exact h.to (Nd.Alike.refl s) rfl rfl rfl rfl rfl
 |snoc l t ih=>rw[Nd.dX];exact ih.hand dst t vf
theorem Twin.cX (h:Twin W s d) (dst vw):Twin W (s.cX dst) {d with vw:=vw,wait:=kU dst d.wait}:=by
 refine⟨h.held,h.mY,h.kg,h.seen,h.o9,h.oz,h.o7,λe=> ?_,?_,h.hP,h.search,h.jT,h.Br,h.fN,h.aP,h.oA,h.ns,h.nX,h.DB,h.Bp.gq dst,h.FP,h.oy⟩
 ·show(bX (gq s.wait dst) e).getD []=cz e (kU dst d.wait);rw[nh h.Bp,EI];by_cases he:e=dst
  ·subst he;rw[jF rfl,jF rfl];rfl
  ·rw[eQ (uaT he),eQ he];exact h.wait e
 ·have:=ud dst d.wait d.wait.length;rw[PE]at this;have:=h.mL;show(kU dst d.wait).length<=W.n;omega
theorem getElem?_eraseIdx' {α:Type} (l:List α) (k i):(l.eraseIdx k)[i]? =if i<k then l[i]? else l[i+1]? :=by rw[uaN]
theorem Twin.stop (h:Twin W s d) (k) (hk:k<s.bu.length) (vq):Twin W (s.stop k) {d with vq:=vq,search:=d.search.take k++d.search.drop (k+1)}:=by
 have e:d.search.take k++d.search.drop (k+1)=d.search.eraseIdx k:=(uaw _ _).symm;rw[e];refine⟨h.held,h.mY,h.kg,h.seen,h.o9,h.oz,h.o7,h.wait,h.mL,?_,λi x y hx hy=> ?_,h.jT,h.Br,h.fN,h.aP,h.oA,h.ns,h.nX,h.DB,h.Bp,h.FP,h.oy⟩
 ·show(d.search.eraseIdx k).length=(s.bu.eraseIdx k).length;rw[NV,NV,h.hP]
 ·have DA:(s.bu.eraseIdx k)[i]? =some x:=hx;have Ke:(d.search.eraseIdx k)[i]? =some y:=hy;rw[getElem?_eraseIdx']at DA Ke;by_cases hi:i<k
  ·rw[jF hi]at DA Ke;exact h.search i x y DA Ke
  ·rw[eQ hi]at DA Ke;exact h.search (i+1) x y DA Ke
theorem Twin.dest (h:Twin W s d) (dst):nY d.search dst=eS s.bu dst:=by
 have e:d.search.map (·.dest)=s.bu.map (·.dest):=by
  apply zD ;intro i;rw[zA,zA];cases hx:s.bu[i]? with
  |none=>
   have:s.bu.length<=i:=List.getElem?_eq_none_iff.1 hx;rw[EJ (by rw[h.hP];exact this)];rfl
  |some x=>
   obtain⟨y,hy⟩:∃y,d.search[i]? =some y:=⟨_,aX (by rw[h.hP];exact(az.1 hx).1)⟩
   obtain⟨due,set,e,_⟩:=h.search i x y hx hy;rw[hy,e];rfl
 have g:∀{α:Type} (f:α->UInt32) (l:List α),l.findIdx? (λx=>decide (f x=dst))=(l.map f).findIdx? λx=>decide (x=dst):=λf l=>by
  rw[List.findIdx?_map];rfl
 unfold nY eS;rw[g (λx:Sk=>x.dest),g (λx:Sr=>x.dest),e]
end
theorem Im {ss:List Sr} {d k} (h:eS ss d=some k):k<ss.length:=by
 unfold eS at h;rw[uaq]at h;exact h.1
theorem Nd.w8 (s:Nd) (d:UInt32):s.flush d=match eS s.bu d with
 |some k=>Nd.stop ((s.bg d (s.texts d)).cX d) k
 |none=>(s.bg d (s.texts d)).cX d:=by
 unfold Nd.flush
 simp only
 have:((s.bg d (s.texts d)).cX d).bu=s.bu:=(Nd.jH s d (s.texts d)).1
 rw[this]
 rfl
end
section
open Go.RowKit
attribute [local irreducible] WS LS OpQ y6 cn cv Spec bA aK di cq
variable (w0:World)
theorem uI (W:TW) (gn:Nat) (s:Nd) (dst:UInt32) (ok:aW s.ls) (hW:W.n<=100000) (F7:s.bu.length<=100000) (ht:∀t∈s.texts dst,t.length<=100) (hf:s.Fit ((s.texts dst).length+1)):Spec ucC w0 153 [ptr gn 0,u32 dst] (qe W gn s) (λ_:Unit=> .tuple #[]) (λ_=>qe W gn (s.flush dst)):=by
 refine eZ Tryz.func153 Tryz.ntmps153 λG=> ?_;simp only[aN];refine rz (W:=W) (g:=gn) (s:=s) iI λd tw=> ?_;have Wm:=tw.mL;have Nj:=tw.Kp dst;have es:=s.w8 dst;have Xz:=tw.dest dst;rw[Nj]at ht hf es;unfold cR bc cc;simp only[bN,ad];repeat' (first|intro K hK|refine ax ?_)
 refine cV (aq.nil _ 243 2 dA none) ?_;refine aV (λkk τ=>∃(i:Nat) (vl vf:Value),i+kk=d.wait.length/\τ=⟨[(5,.int .i64 (i:Int)),(4,vl),(1,u32 dst),(0,ptr gn 0)],[],cR gn (s.bg dst (cz dst (d.wait.take i))) {d with vf:=vf}*(rows 243 2 dA vl (kU dst (d.wait.take i))*G)⟩) ?_ ?_
 ·exact⟨d.wait.length,_,⟨0,.slice none 0 0,d.vf,by omega,rfl⟩,cG,rfl,by unfold cR bc cc;simp only[bN,Nd.bg,uai,cz,kU,List.filter_nil,Xp,uah];exact ah⟩
 rintro kk τ ⟨i,vl,vf,qE,rfl⟩;have S1:=ud dst d.wait i;obtain⟨Vh,Mp⟩:=zC dst d.wait i;have LA:=Nd.xf s dst (cz dst (d.wait.take i)) ok;have Q4:(s.bg dst (cz dst (d.wait.take i))).Fit (Vh.length+1):=Nd.Fit.bg dst _ (hf.le (by rw[Mp,pU];omega));rcases jP i d.wait.length with h|h
 ·have h1:(i:Int)<(d.wait.length:Int):=by omega
  obtain⟨z,hz⟩:∃z,d.wait[i]? =some z:=⟨_,aX h⟩
  have Ci:=qM (d:=dst) hz;have F6:=xU (d:=dst) hz;by_cases h2:z.1=dst
  ·rw[jF h2]at Ci F6;rw[rL]at F6;have O8:=ht _ (HB hz h2);have ek:s.bg dst (cz dst (d.wait.take (i+1)))=(s.bg dst (cz dst (d.wait.take i))).hand dst z.2:=by rw[Ci,Nd.dX]
   generalize s.bg dst (cz dst (d.wait.take i))=sj at*
   have p1:=xV w0 gn sj {d with vf:=vf} LA (Q4.le (by omega)) dst z.2 (by omega);have ez:sj.hand dst z.2=sj.hand dst z.2:=rfl;generalize hk:sj.hand dst z.2=sk at*
   unfold cR bc cc at*
   simp only[bN,ad]at p1 ⊢;repeat' (first|intro hc|refine xyZ ?_|refine aF ?_ ?_|refine cZ p1 λx1=> ?_)
   exact⟨kk - 1,_,by omega,⟨i+1,vl,x1,by omega,rfl⟩,cG,rfl,by rw[ek,F6];simp only[bN];exact ah⟩
  ·rw[eQ h2]at Ci F6;rw[rL]at Ci;have ek:s.bg dst (cz dst (d.wait.take (i+1)))=s.bg dst (cz dst (d.wait.take i)):=by rw[Ci]
   generalize s.bg dst (cz dst (d.wait.take i))=sj at*
   unfold cR bc cc;simp only[bN,ad];repeat' (first|intro hc|refine xyZ ?_|refine aF ?_ ?_|(refine ai (au dA [z] iI iI iI rfl rfl rfl rfl rfl iI rfl rfl rfl) rfl ?_;intro vx)|(refine ai (aR rfl rfl iI iI rfl iI iI gU (by simp only[FO];omega) rfl) rfl ?_;intro va))
   exact⟨kk - 1,_,by omega,⟨i+1,va,vf,by omega,rfl⟩,cG,rfl,by rw[ek,F6];simp only[bN];exact ah⟩
 have h1:¬(i:Int)<(d.wait.length:Int):=by omega
 rw[Gz h]at Mp LA Q4 S1 ⊢;have uO:=tw.bg dst (cz dst d.wait) vf;have Yd:=(Nd.jH s dst (cz dst d.wait)).1;generalize s.bg dst (cz dst d.wait)=sj at*
 have Lw:=tw.hP;have p2:=kR w0 gn [u32 sj.self,u32 sj.seq,ptr d.tb 0,d.vr,u64 sj.cd,d.vs,vl] [.int .i64 sj.last,u32 sj.ids,u32 sj.ff,d.vt,u64 sj.now,aZ sj.out.ay,.bool sj.out.replace,vf,d.vc,d.vd,d.vh,u32 sj.own] d.vq d.search (by omega) rfl dst;rw[Xz]at p2;simp only[YW,zF]at p2;have lD:=λvw=>uO.cX dst vw;cases hk:eS s.bu dst with
 |none=>
  rw[hk]at p2 es;simp only[qc]at p2;unfold cR bc cc;simp only[bN,ad];repeat' (first|intro hc|refine yZ ?_|refine aF ?_ ?_|refine cZ p2 λx2=> ?_)
  exact aj (.inr rfl) rfl ⟨(),rfl,by rw[es];exact aq.rn (lD vl) (by unfold cR bc cc;simp only[bN,cy,Nd.cX];exact ah)⟩
 |some k=>
  rw[hk]at p2 es;simp only[qc]at p2;have tK:=Im hk;have yp:=λvw vq=>(lD vw).stop k (by show k<sj.bu.length;rw[Yd];exact tK) vq;have p3:=uH w0 gn (sj.cX dst) {d with vf:=vf,vw:=vl,wait:=kU dst d.wait} sj.out d.search (by omega) k (by omega);unfold cR bc cc;simp only[bN,ad,Nd.cX]at p3 ⊢;repeat' (first|intro hc|refine yZ ?_|refine aF ?_ ?_|refine cZ p2 λx2=> ?_|refine cZ p3 λx3=> ?_)
  exact aj (.inr rfl) rfl ⟨(),rfl,by rw[es];exact aq.rn (yp vl x3) (by unfold cR bc cc;simp only[bN,cy,Nd.cX,Nd.stop];exact ah)⟩
end
section
section
variable {W:TW} {s:Nd} {d:RD}
theorem ll (now l k):dJ now (l++k)=dJ now l+dJ now k:=by unfold dJ;rw[uac,pU]
theorem FF {x:UInt64} (h:x.toNat<=4611686018427387904):(x+1000).toNat=x.toNat+1000:=by
 have h2:(1000:UInt64).toNat=1000:=rfl;rw[uaO,h2];omega
theorem BU {now:UInt64} (hn:now.toNat<=4611686018427387904) {a b:UInt64} (h:a.toNat<=b.toNat) (hb:b.toNat<=now.toNat) (ha:now<a+1000):now<b+1000:=by
 rw[WC,FF (by omega)]at*
 omega
theorem qx {now}:∀{l:List UInt64},(∀t∈l,now<t+1000)->dJ now l=l.length:=λ{l} h=>by
 unfold dJ;rw[List.filter_eq_self.2 (λt ht=>by simpa using h t ht)]
theorem GZ {now l} (h:0<dJ now l):∃t∈l,now<t+1000:=by
 unfold dJ at h;obtain⟨t,ht⟩:=List.exists_mem_of_length_pos h;exact⟨t,(uaf.1 ht).1,by simpa using(uaf.1 ht).2⟩
theorem Twin.Gn (h:Twin W s d):s.aP.length<=5/\s.aP.length<=d.aP.length:=by rw[h.aP,uK];omega
theorem Twin.busy (h:Twin W s d) (hn:s.now.toNat<=4611686018427387904):5<=dJ s.now d.aP↔5<=dJ s.now s.aP:=by
 have e:d.aP=d.aP.take (d.aP.length - 5)++s.aP:=by rw[h.aP,Jt]
 have Hq:=h.oA;have oQ:=h.ns;constructor
 ·intro h5;rw[e,ll]at h5;rw[e,Z0]at Hq;by_cases h0:0<dJ s.now (d.aP.take (d.aP.length - 5))
  ·obtain⟨t,ht,hb⟩:=GZ h0;have hl:s.aP.length=5:=by
    have h1:0<(d.aP.take (d.aP.length - 5)).length:=uci ht;rw[Aw]at h1;rw[h.aP,uK];omega
   rw[qx (λb FT=>BU hn (Hq.2.2 t ht b FT) (oQ b (by rw[e];exact ubG _ FT)) hb),hl];omega
  ·omega
 ·intro h5;rw[e,ll];omega
theorem Is (l:List UInt64) (x):ik (l.drop (l.length - 5)++[x])=(l++[x]).drop ((l++[x]).length - 5):=by
 unfold ik;rw[pU,pU,uK,FO];by_cases h:5<=l.length
 ·rw[jF (by omega)];have h1:l.length+1 - 5=l.length - 5+1:=by omega
  have h2:List.drop 1 (l.drop (l.length - 5)++[x])=List.drop 1 (l.drop (l.length - 5))++[x]:=uaj (by rw[uK];omega);have h3:(l++[x]).drop (l.length - 5+1)=l.drop (l.length - 5+1)++[x]:=uaj (by omega);rw[h1,h2,h3,uax]
 ·rw[eQ (by omega)];have h1:l.length - 5=0:=by omega
  have h2:l.length+1 - 5=0:=by omega
  rw[h1,h2];rfl
theorem G1 {now:UInt64} (hn:now.toNat<=4611686018427387904) {l:List UInt64} (hl:l.length<=5) (ho:l.Pairwise λa b=>a.toNat<=b.toNat) (hs:∀t∈l,t.toNat<=now.toNat) (h:¬5<=dJ now l):dJ now (ik (l++[now]))=dJ now l+1:=by
 have h1:now<now+1000:=by
  have h2:=FF hn;show now.toNat<(now+1000).toNat;rw[h2];exact Nat.lt_add_of_pos_right (by decide)
 have h2:dJ now [now]=1:=qx (by simpa using h1);unfold ik;rw[pU,FO];by_cases h5:5<l.length+1
 ·rw[jF h5];cases l with
  |nil=>exfalso;rw[HM]at h5;omega
  |cons a r=>
   have ha:¬now<a+1000:=λhb=>h (by
    rw[Y5]at ho
    rw[qx (λb FT=>(JA.1 FT).elim (λe=>e▸hb) λFT=>BU hn (ho.1 b FT) (hs b (G4 _ FT)) hb)]
    exact Nat.le_of_lt_succ h5)
   have e:dJ now (a::r)=dJ now r:=by
    unfold dJ;rw[uaH,eQ (by simpa using ha)]
   show dJ now (r++[now])=_;rw[ll,h2,e]
 ·rw[eQ h5,ll,h2]
theorem Twin.Si (h:Twin W s d) (hn:s.now.toNat<=4611686018427387904) (hi:s.ids.toNat<4294967295) (hb:¬5<=dJ s.now s.aP) (vt):Twin W {s with ids:=s.ids+1,aP:=ik (s.aP++[s.now])} {d with vt:=vt,aP:=d.aP++[s.now]}:=by
 have hid:(s.ids+1).toNat=s.ids.toNat+1:=by rw[ubI];have:(1:UInt32).toNat=1:=rfl;rw[this];omega
 have Hq:=h.oA;have iu:s.aP.Pairwise λa b=>a.toNat<=b.toNat:=by rw[h.aP];exact Hq.sublist (List.drop_sublist _ _)
 have fP:∀t∈s.aP,t.toNat<=s.now.toNat:=λt ht=>h.ns t (by rw[h.aP]at ht;exact ubN ht);refine⟨h.held,h.mY,h.kg,h.seen,h.o9,h.oz,λq hq hs=> ?_,h.wait,h.mL,h.hP,h.search,h.jT,h.Br,h.fN,?_,?_,?_,?_,h.DB,h.Bp,h.FP,?_⟩
 ·have:=h.o7 q hq hs;show q.id.toNat<=(s.ids+1).toNat;omega
 ·show ik (s.aP++[s.now])=_;rw[h.aP];exact Is _ _
 ·show(d.aP++[s.now]).Pairwise _;rw[Z0];exact⟨Hq,by simp,λa ha b hb=>by simp at hb;subst hb;exact h.ns a ha⟩
 ·intro t ht;rcases Lz.1 ht with ht|ht
  ·exact h.ns t ht
  ·simp at ht;subst ht;exact uL _
 ·show(d.aP++[s.now]).length=(s.ids+1).toNat;rw[pU,FO,h.nX,hid]
 ·show(s.ids+1).toNat<=W.i0+dJ s.now (ik (s.aP++[s.now]));rw[G1 hn h.Gn.1 iu fP hb,hid];have:=h.oy;omega
theorem Twin.fresh (h:Twin W s d) (i:UInt32) (hi:s.ids.toNat<i.toNat):¬s.now<seenAt s.seen ⟨s.self,i⟩:=by
 have:(⟨s.self,i⟩:Rq)∉s.order:=λhm=>by have:=h.o7 _ hm rfl;simp only at this;omega
 unfold seenAt;rw[h.oz _ this];exact UInt64.not_lt_zero
theorem Twin.QC (h:Twin W s d) (n) (hn:s.last<n):(s.bI.map (·.id)++[n]).Pairwise (·<·):=by
 rw[Z0];exact⟨h.Br,by simp,λa ha b hb=>by
  simp at hb;subst hb
  obtain⟨t,ht,rfl⟩:=HC.1 ha
  have:=h.fN t ht
  omega⟩
theorem getElem?_modify' {α:Type} (l:List α) (k i f):(l.modify k f)[i]? =if k=i then l[i]?.map f else l[i]? :=by
 rw[uab];split
 ·rename_i h;subst h;simp
 ·simp
theorem Twin.arm {n i0:Nat} {nm:Int} (h:Twin ⟨n,some nm,i0⟩ s d) {k:Nat} {x:Sr} (hx:s.bu[k]? =some x) (sY:x.name=nm) (Uw:(s.bu.map (·.name)).Nodup) (hle:x.name<=s.names) (En:0<=s.last) (b:Bool) (w:UInt64) (vq:Value):Twin ⟨n,none,i0⟩ ((s.cH k b).arm x.name w) {d with vq:=vq,search:=d.search.set k ⟨x.dest,x.bK,x.aU,s.now+w,s.last+1,b⟩}:=by
 subst sY;have tK:k<s.bu.length:=(az.1 hx).1;have hex:∀t∈s.bI,t.km≠x.name:=λt ht e=>h.FP t ht (by rw[e]);refine⟨h.held,h.mY,h.kg,h.seen,h.o9,h.oz,h.o7,h.wait,h.mL,?_,λi x' y DA hy=> ?_,?_,?_,?_,h.aP,h.oA,h.ns,h.nX,h.DB,h.Bp,λt ht=>by simp,h.oy⟩
 ·show(d.search.set k _).length=(s.bu.modify k _).length;rw[TY,Zb,h.hP]
 ·have qb:(s.bu.modify k λx=>{x with out:=b})[i]? =some x':=DA;have Cn:(d.search.set k ⟨x.dest,x.bK,x.aU,s.now+w,s.last+1,b⟩)[i]? =some y:=hy;rw[getElem?_modify']at qb;rw[Dg]at Cn;by_cases hi:k=i
  ·subst hi;rw[jF rfl,hx]at qb;rw[jF rfl,jF (by rw[h.hP];exact tK)]at Cn;cases qb;cases Cn;exact⟨_,_,rfl,.inr (ubG _ (Z1.2 rfl))⟩
  ·rw[eQ hi]at qb Cn;obtain⟨due,set,e1,e2⟩:=h.search i x' y qb Cn;refine⟨due,set,e1,.inr ?_⟩;rcases e2 with e2|e2
   ·exfalso;have e3:x.name=x'.name:=by simpa using e2
    have h1:=G5.1 (ZS.1 Uw);obtain⟨a1,a2⟩:=az.1 hx;obtain⟨b1,b2⟩:=az.1 qb;rcases Nat.lt_or_gt_of_ne hi with bW|bW
    ·have:=h1 k i (by simpa using a1) (by simpa using b1) bW;simp[a2,b2,e3]at this
    ·have:=h1 i k (by simpa using b1) (by simpa using a1) bW;simp[a2,b2,e3]at this
   ·show _∈s.bI++[_]
    exact ubM _ e2
 ·show((s.bI++[(⟨s.now+w,s.last+1,x.name⟩:Tm)]).map (·.km)).Nodup;rw[EZ,Yw];refine⟨h.jT,by simp,λa ha c hc=> ?_⟩;obtain⟨t,ht,rfl⟩:=HC.1 ha;simp at hc;subst hc;exact hex t ht
 ·show((s.bI++[(⟨s.now+w,s.last+1,x.name⟩:Tm)]).map (·.id)).Pairwise _;rw[EZ];exact h.QC (s.last+1) (by omega)
 ·intro t ht;have hc:=h.fN;rcases Lz.1 ht with ht|ht
  ·have:=hc t ht;show 1<=t.id/\t.id<=s.last+1/\t.km<=s.names;omega
  ·simp at ht;subst ht;show 1<=s.last+1/\s.last+1<=s.last+1/\x.name<=s.names;omega
theorem Twin.KJ {n i0} (h:Twin ⟨n,none,i0⟩ s d) {i} {t:Tm} (ht:s.bI[i]? =some t):Twin ⟨n,some t.km,i0⟩ {s with bI:=s.bI.eraseIdx i} d:=by
 have ow:(s.bI.eraseIdx i).Sublist s.bI:=W8 _ _;have mi:∀u∈s.bI.eraseIdx i,u.km≠t.km:=λu hu=>by
  obtain⟨j,hj⟩:=JC hu;rw[getElem?_eraseIdx']at hj;have h1:=G5.1 (ZS.1 h.jT);obtain⟨a1,a2⟩:=az.1 ht;by_cases pZ:j<i
  ·rw[jF pZ]at hj;obtain⟨b1,b2⟩:=az.1 hj;have:=h1 j i (by simpa using b1) (by simpa using a1) pZ;simpa [a2,b2]using this
  ·rw[eQ pZ]at hj;obtain⟨b1,b2⟩:=az.1 hj;have:=h1 i (j+1) (by simpa using a1) (by simpa using b1) (by omega);simp[a2,b2]at this;exact λe=>this e.symm
 refine⟨h.held,h.mY,h.kg,h.seen,h.o9,h.oz,h.o7,h.wait,h.mL,h.hP,λj x y hx hy=> ?_,?_,?_,λu hu=>h.fN u (ow.subset hu),h.aP,h.oA,h.ns,h.nX,h.DB,h.Bp,λu hu e=>mi u hu (by simpa using e.symm),h.oy⟩
 ·obtain⟨due,set,e1,e2⟩:=h.search j x y hx hy;rcases e2 with e2|e2
  ·cases e2
  ·refine⟨due,set,e1,?_⟩;by_cases Hs:t.km=x.name
   ·exact .inl (by rw[Hs])
   ·refine .inr ?_;obtain⟨m,hm⟩:=JC e2;have V9:m≠i:=λe=>by subst e;rw[ht]at hm;cases hm;exact Hs rfl
    by_cases bW:m<i
    ·refine jq (i:=m) ?_;rw[getElem?_eraseIdx',jF bW];exact hm
    ·refine jq (i:=m - 1) ?_;rw[getElem?_eraseIdx',eQ (by omega)];have:m - 1+1=m:=by omega
     rw[this];exact hm
 ·exact h.jT.sublist (ow.map _)
 ·exact h.Br.sublist (ow.map _)
theorem Twin.xN {n i0 nm} (h:Twin ⟨n,some nm,i0⟩ s d) (hn:∀x∈s.bu,x.name≠nm):Twin ⟨n,none,i0⟩ s d:=by
 refine⟨h.held,h.mY,h.kg,h.seen,h.o9,h.oz,h.o7,h.wait,h.mL,h.hP,λj x y hx hy=> ?_,h.jT,h.Br,h.fN,h.aP,h.oA,h.ns,h.nX,h.DB,h.Bp,λu hu e=>(by cases e),h.oy⟩;obtain⟨due,set,e1,e2⟩:=h.search j x y hx hy;rcases e2 with e2|e2
 ·exact absurd (by simpa using e2.symm) (hn x (jq hx))
 ·exact⟨due,set,e1,.inr e2⟩
theorem Twin.eC {n i0} (h:Twin ⟨n,none,i0⟩ s d) (dst vq):Twin ⟨n,some (s.names+1),i0⟩ (s.eC dst) {d with vq:=vq,search:=d.search++[⟨dst,1,0,0,0,false⟩]}:=by
 refine⟨h.held,h.mY,h.kg,h.seen,h.o9,h.oz,h.o7,h.wait,h.mL,?_,λj x y hx hy=> ?_,h.jT,h.Br,λu hu=> ?_,h.aP,h.oA,h.ns,h.nX,h.DB,h.Bp,λu hu e=> ?_,h.oy⟩
 ·show(d.search++[_]).length=(s.bu++[_]).length;rw[pU,pU,h.hP];rfl
 ·have qb:(s.bu++[(⟨dst,1,0,false,s.names+1⟩:Sr)])[j]? =some x:=hx;have Cn:(d.search++[(⟨dst,1,0,0,0,false⟩:Sk)])[j]? =some y:=hy;rcases jP j s.bu.length with hj|hj
  ·rw[ube hj]at qb;rw[ube (by rw[h.hP];exact hj)]at Cn;obtain⟨due,set,e1,e2⟩:=h.search j x y qb Cn;rcases e2 with e2|e2
   ·cases e2
   ·exact⟨due,set,e1,.inr e2⟩
  ·rw[Zq hj]at qb;rw[Zq (by rw[h.hP];exact hj),h.hP]at Cn;obtain⟨c1,c2⟩:=az.1 qb;simp at c1;have:j - s.bu.length=0:=by omega
   rw[this]at qb Cn;cases qb;cases Cn;exact⟨0,0,rfl,.inl rfl⟩
 ·have:=h.fN u hu;show 1<=u.id/\u.id<=s.last/\u.km<=s.names+1;omega
 ·have:=h.fN u hu;have e2:s.names+1=u.km:=by simpa using e
  omega
theorem Twin.Mc {n i0 nm} (h:Twin ⟨n,some nm,i0⟩ s d) {k} {x y:Sr} {z:Sk} (hx:s.bu[k]? =some x) (hz:d.search[k]? =some z) (sY:x.name=nm) (hy:y.name=x.name) (vq):Twin ⟨n,some nm,i0⟩ {s with bu:=s.bu.set k y} {d with vq:=vq,search:=d.search.set k (Sk.of y z.due z.set)}:=by
 have tK:k<s.bu.length:=(az.1 hx).1;refine⟨h.held,h.mY,h.kg,h.seen,h.o9,h.oz,h.o7,h.wait,h.mL,?_,λj x' y' DA Ke=> ?_,h.jT,h.Br,h.fN,h.aP,h.oA,h.ns,h.nX,h.DB,h.Bp,h.FP,h.oy⟩
 ·show(d.search.set k _).length=(s.bu.set k y).length;rw[TY,TY,h.hP]
 ·have qb:(s.bu.set k y)[j]? =some x':=DA;have Cn:(d.search.set k (Sk.of y z.due z.set))[j]? =some y':=Ke;rw[Dg]at qb Cn;by_cases hj:k=j
  ·subst hj;rw[jF rfl,jF tK]at qb;rw[jF rfl,jF (by rw[h.hP];exact tK)]at Cn;cases qb;cases Cn;exact⟨_,_,rfl,.inl (by rw[hy,sY])⟩
  ·rw[eQ hj]at qb Cn;exact h.search j x' y' qb Cn
end
end
section
theorem Twin.Ki {W} {s:Nd} {d} (h:Twin W s d) (q) (hq:∀t∈s.bI,t.id<=q):Twin W {s with last:=q} d:=⟨h.held,h.mY,h.kg,h.seen,h.o9,h.oz,h.o7,h.wait,h.mL,h.hP,h.search,h.jT,h.Br,λt ht=>⟨(h.fN t ht).1,hq t ht,(h.fN t ht).2.2⟩,h.aP,h.oA,h.ns,h.nX,h.DB,h.Bp,h.FP,h.oy⟩
def Nd.kj (s:Nd) (a:List Sr) (b:Int):Nd:={s with bu:=a,last:=b}
theorem Nd.ER (s:Nd) (l a b):(s.kj a b).cf l=(s.cf l).kj a b:=by
 unfold Nd.cf;show(match bX s.held l.dest with|some q=>if q<l.seq then(s.kj a b).write ⟨false,l.dest,l.seq⟩else s.kj a b|none=>(s.kj a b).write ⟨false,l.dest,l.seq⟩)=_;cases bX s.held l.dest with
 |none=>rfl
 |some q=>dsimp only;split<;>rfl
theorem Nd.EU (s:Nd) (a b):(s.kj a b).dh=s.dh.kj a b:=by
 unfold Nd.dh;show(if s.own<s.seq then(s.kj a b).write ⟨true,0,s.seq⟩else s.kj a b)=_;split<;>rfl
theorem Nd.HJ (s:Nd) (a b):(s.kj a b).note=s.note.kj a b:=by
 have key:∀(l:List Ln) (s:Nd),l.foldl Nd.cf (s.kj a b)=(l.foldl Nd.cf s).kj a b:=λl=>by
  induction l with
  |nil=>intro s;rfl
  |cons x l ih=>intro s;rw[Uq,Uq,Nd.ER,ih]
 unfold Nd.note;rw[Nd.EU,key];rfl
theorem Nd.yI (s:Nd) (r a b):(s.kj a b).aT r=(s.aT r).kj a b:=by
 unfold Nd.aT;simp only;have e:(s.kj a b).now=s.now/\(s.kj a b).seen=s.seen/\(s.kj a b).order=s.order:=⟨rfl,rfl,rfl⟩
 rw[e.1,e.2.1,e.2.2];by_cases h:((dg s.now s.seen s.order).2++[r]).length<=16
 ·rw[jF h,jF h];rfl
 ·rw[eQ h,eQ h];rfl
def Nd.oJ (s:Nd):Nd:={s with ids:=s.ids+1,aP:=ik (s.aP++[s.now])}
def Nd.kE (s:Nd) (x:Sr):Nd:=s.oJ.send 0 ⟨x.bK,1,0,(dG s.ls x.dest).isNone,s.oJ.ids,x.dest,eJ s.ls x.dest,s.self,s.seq,0,[],[]⟩
def Nd.wF (s:Nd):Nd:=Nd.note {s with seq:=bS s.seq}
theorem Nd.Ah (s:Nd) (x):s.gE x=(s.wF.kE x).aT ⟨(s.wF.kE x).self,(s.wF.kE x).ids⟩:=rfl
theorem Nd.yS (s:Nd) (x a b):(s.kj a b).gE x=(s.gE x).kj a b:=by
 have e1:(s.kj a b).wF=s.wF.kj a b:=Nd.HJ {s with seq:=bS s.seq} a b;rw[Nd.Ah,Nd.Ah,e1];have e2:(s.wF.kj a b).kE x=(s.wF.kE x).kj a b:=rfl;rw[e2];exact Nd.yI (s.wF.kE x) _ a b
theorem Ai (t j):(2:UInt64)*UInt64.ofInt (80*(t+2)*2 ^ j)=UInt64.ofInt (80*(t+2)*2 ^(j+1)):=by
 have h2:(2:UInt64)=UInt64.ofInt 2:=rfl;rw[h2,<-UInt64.ofInt_mul];congr 1;rw[Int.pow_succ];generalize 80*(t+2)=u;rw[Int.mul_comm 2,Int.mul_assoc]
theorem DN (x:Sr) (h:0<=x.bK/\x.bK<=8):∃wf:Nat->UInt64,80*UInt64.ofNat (x.bK+2).toNat=wf 0/\(∀j,2*wf j=wf (j+1))/\wf x.aU.toNat=iL x:=by
 refine⟨λj=>UInt64.ofInt (80*(x.bK+2)*2 ^ j),?_,λj=>Ai x.bK j,rfl⟩;generalize x.bK=t at h;have a:t=0\/t=1\/t=2\/t=3\/t=4\/t=5\/t=6\/t=7\/t=8:=by omega
 rcases a with rfl|rfl|rfl|rfl|rfl|rfl|rfl|rfl|rfl<;>decide
open Go.RowKit
abbrev SO:=Option Addr×Nat×Nat
def PJ:Value->SO
 | .slice A n c=>(A,n,c)
 |_=>(none,0,0)
def yo (x:SO×SO×SO):Value×Value×Value:=(cT x.1,cT x.2.1,cT x.2.2)
def lZ (v:Value×Value×Value):SO×SO×SO:=(PJ v.1,PJ v.2.1,PJ v.2.2)
theorem eR {w0 w o v F} (h:Sat w0 w (r5 o v*F)):yo (lZ v)=v:=by
 exact paB
theorem Spec.zdi {P:Program} {w0:World} {f:FuncId} {args:List Value} {X:af} {α β:Type} {res:α->Value} {post:α->af} (h:Spec P w0 f args X res post) (φ:β->α) (ψ:α->β) (hi:∀x w F,Sat w0 w (post x*F)->φ (ψ x)=x):Spec P w0 f args X (λy=>res (φ y)) (λy=>post (φ y)):=λG w hs=>(h G w hs).mono λe w' ⟨x,he,hx⟩=>⟨ψ x,by show e= .returned (res (φ (ψ x)));rw[hi x w' G hx];exact he,by show Sat w0 w' (post (φ (ψ x))*G);rw[hi x w' G hx];exact hx⟩
theorem Ad {P n w0 E D H F Q c α e size f} {l:List α} (v) (hl:dD H v α e size f l F) (h:l.length<=maxLen->(∀A k q,v= .slice A k q->k=l.length)->WS P n w0 c Q ⟨E,D,H⟩):WS P n w0 c Q ⟨E,D,H⟩:=λa w g=>by
 have hs:=g.sat.cast hl.eq;unfold rows at hs;obtain⟨_,⟨A,hv,h0,_⟩|⟨g',off,cap,cur,fr,hv,h1,h2,_⟩⟩:=hs.jN
 ·exact h (by omega) (λA' k q e=>by rw[hv]at e;cases e;exact h0.symm) a w g
 ·exact h (by omega) (λA' k q e=>by rw[hv]at e;cases e;rfl) a w g
theorem zaR {α:Type} (l:List α) (i z):(l.set i z).drop (i+1)=l.drop (i+1):=by
 apply zD;intro j;rw[Lf,Lf,Dg,eQ (by omega)]
theorem vP {α:Type} {l m:List α} {i z} (h:l.drop i=m.drop i) (hz:m[i]? =some z):l[i]? =some z:=by
 have:=G2 (λx=>x[0]?) h;simp only[Lf,uay]at this;rw[this,hz]
theorem pD {α:Type} {l m:List α} {i} (h:l.drop i=m.drop i):l.drop (i+1)=m.drop (i+1):=by
 have:=G2 (λx=>x.drop 1) h;simpa [uax]using this
theorem Ee (x b w):
 (binOp .neq 48 (.agg #[.int .u32 x,.string b]) (.agg #[.int .u32 x,.string b])).run ucC w= .ok (.bool false) w:=by
 have u4:=Tryz.underlying26
 have u9:=Tryz.underlying9
 have hS:Tryz.prog.underlying 48=some (.struct (Tryz.prog.fieldsOf 48)):=by kernel_rfl
 have hp:Tryz.prog.stoodInHeld 48=false:=by kernel_rfl
 rw[run_neq_struct,show(10000:Nat)=9999+1 from rfl,run_equalIn_agg w 9999 48 _ _ hS hp]
 simp only[Program.fieldsOf,Tryz.underlying48]
 go_simp
instance RQ (z:UInt32×cP):dL ucC .neq 48 (.agg (dA z).toArray) (.agg (dA z).toArray) (.bool (!decide (z=z))):=⟨λw=>by rw[Dp rfl];exact Ee _ _ w,λw x y=>by apply run_eqGuard_agg;kernel_rfl⟩
theorem Ip (x b w):
 (binOp .neq 70 (.agg #[.int .u32 x,.string b]) (.agg #[.int .u32 x,.string b])).run ucC w= .ok (.bool false) w:=by
 have u4:=Tryz.underlying26
 have u9:=Tryz.underlying9
 have hS:Tryz.prog.underlying 70=some (.struct (Tryz.prog.fieldsOf 70)):=by kernel_rfl
 have hp:Tryz.prog.stoodInHeld 70=false:=by kernel_rfl
 rw[run_neq_struct,show(10000:Nat)=9999+1 from rfl,run_equalIn_agg w 9999 70 _ _ hS hp]
 simp only[Program.fieldsOf,Tryz.underlying70]
 go_simp
instance Te (z:UInt32×cP):dL ucC .neq 70 (.agg (dA z).toArray) (.agg (dA z).toArray) (.bool (!decide (z=z))):=⟨λw=>by rw[Dp rfl];exact Ip _ _ w,λw x y=>by apply run_eqGuard_agg;kernel_rfl⟩
attribute [local irreducible] WS LS OpQ y6 cn cv Spec bA aK
variable (w0:World)
theorem ua (o va vb):Spec ucC w0 46 [fp o va,fp o vb] (r5 o va*r5 o vb) (λ_:Unit=> .bool true) (λ_=>emp):=by
 refine eZ Tryz.func46 Tryz.ntmps46 λG=> ?_;unfold fp r5;simp only[aN,ad];repeat' (first|(refine hK _ ?_;clear hK K)|intro K hK|intro hc|refine xyZ ?_|refine aF ?_ ?_|refine zha ?_|refine bT λg=> ?_)
 rename_i ga;refine Ad va.1 iI λV8 _=> ?_;replace V8:o.aJ.length<=9223372036854775807:=WA V8 (by decide);refine aV (λkk τ=>∃(i:Nat) (l0:List (UInt32×cP)),i+kk=o.aJ.length/\l0.length=o.aJ.length/\l0.drop i=o.aJ.drop i/\τ=⟨[(5,.int .i64 (i:Int)),(2,ptr ga 0),(3,ptr g 0)],[],aK g 35 [aZ o.ay,.bool o.replace,vb.1,vb.2.1,vb.2.2]*(aK ga 35 [aZ o.ay,.bool o.replace,va.1,va.2.1,va.2.2]*(rows 48 2 dA va.1 l0*(rows 70 2 dA va.2.1 o.cj*(rows 166 1 lr va.2.2 o.dropped*(rows 48 2 dA vb.1 o.aJ*(rows 70 2 dA vb.2.1 o.cj*(rows 166 1 lr vb.2.2 o.dropped*G)))))))⟩) ?_ ?_
 ·exact⟨o.aJ.length,_,⟨0,o.aJ,by omega,rfl,rfl,rfl⟩,cG,rfl,ah⟩
 rintro kk τ ⟨i,l0,qE,En,hd,rfl⟩;rcases jP i o.aJ.length with h|h
 ·have h1:(i:Int)<(l0.length:Int):=by omega
  obtain⟨z,hz⟩:∃z,o.aJ[i]? =some z:=⟨_,aX h⟩
  have Kf:=vP hd hz;have rU:(l0.set i (0,[])).drop (i+1)=o.aJ.drop (i+1):=by rw[zaR];exact pD hd
  repeat' (first|(refine hK _ ?_;clear hK K)|refine ag (id:=6) (.range 11) ?_|intro K hK|intro hc|refine xyZ ?_|refine aF ?_ ?_|refine zbq ?_|(refine bL (gV ((0,[]):UInt32×cP) rfl rfl rfl iI iI iI rfl rfl (by first|assumption|omega)) ?_;intro gx))
  --Vt
  exact⟨kk - 1,_,by omega,⟨i+1,_,by omega,by rw[TY];exact En,rU,rfl⟩,cG,rfl,ah⟩
 have h1:¬(i:Int)<(l0.length:Int):=by omega
 clear hd qE h;repeat' (first|(refine hK _ ?_;clear hK K)|intro K hK|intro hc|refine xyZ ?_|refine aF ?_ ?_|refine zw4 ?_)
 refine Ad va.2.1 iI λMk _=> ?_;replace Mk:o.cj.length<=9223372036854775807:=WA Mk (by decide);refine aV (λkk τ=>∃(i:Nat) (l1:List (UInt32×cP)),i+kk=o.cj.length/\l1.length=o.cj.length/\l1.drop i=o.cj.drop i/\τ=⟨[(6,.int .i64 (i:Int)),(2,ptr ga 0),(3,ptr g 0)],[],aK g 35 [aZ o.ay,.bool o.replace,vb.1,vb.2.1,vb.2.2]*(aK ga 35 [aZ o.ay,.bool o.replace,va.1,va.2.1,va.2.2]*(rows 48 2 dA va.1 l0*(rows 70 2 dA va.2.1 l1*(rows 166 1 lr va.2.2 o.dropped*(rows 48 2 dA vb.1 o.aJ*(rows 70 2 dA vb.2.1 o.cj*(rows 166 1 lr vb.2.2 o.dropped*G)))))))⟩) ?_ ?_
 ·exact⟨o.cj.length,_,⟨0,o.cj,by omega,rfl,rfl,rfl⟩,cG,rfl,ah⟩
 rintro kk τ ⟨i,l1,qE,V4,hd,rfl⟩;rcases jP i o.cj.length with h|h
 ·have h1:(i:Int)<(l1.length:Int):=by omega
  obtain⟨z,hz⟩:∃z,o.cj[i]? =some z:=⟨_,aX h⟩
  have Kf:=vP hd hz;have rU:(l1.set i (0,[])).drop (i+1)=o.cj.drop (i+1):=by rw[zaR];exact pD hd
  repeat' (first|(refine hK _ ?_;clear hK K)|refine ag (id:=12) (.range 11) ?_|intro K hK|intro hc|refine xyZ ?_|refine aF ?_ ?_|refine zbq ?_|(refine bL (gV ((0,[]):UInt32×cP) rfl rfl rfl iI iI iI rfl rfl (by first|assumption|omega)) ?_;intro gx))
  --Vu
  exact⟨kk - 1,_,by omega,⟨i+1,_,by omega,by rw[TY];exact V4,rU,rfl⟩,cG,rfl,ah⟩
 have h1:¬(i:Int)<(l1.length:Int):=by omega
 clear hd qE h;repeat' (first|(refine hK _ ?_;clear hK K)|intro K hK|intro hc|refine xyZ ?_|refine aF ?_ ?_|refine zw4 ?_)
 refine Ad va.2.2 iI λNi _=> ?_;replace Ni:o.dropped.length<=9223372036854775807:=WA Ni (by decide);refine aV (λkk τ=>∃(i:Nat) (l2:List (Int)),i+kk=o.dropped.length/\l2.length=o.dropped.length/\l2.drop i=o.dropped.drop i/\τ=⟨[(7,.int .i64 (i:Int)),(2,ptr ga 0),(3,ptr g 0)],[],aK g 35 [aZ o.ay,.bool o.replace,vb.1,vb.2.1,vb.2.2]*(aK ga 35 [aZ o.ay,.bool o.replace,va.1,va.2.1,va.2.2]*(rows 48 2 dA va.1 l0*(rows 70 2 dA va.2.1 l1*(rows 166 1 lr va.2.2 l2*(rows 48 2 dA vb.1 o.aJ*(rows 70 2 dA vb.2.1 o.cj*(rows 166 1 lr vb.2.2 o.dropped*G)))))))⟩) ?_ ?_
 ·exact⟨o.dropped.length,_,⟨0,o.dropped,by omega,rfl,rfl,rfl⟩,cG,rfl,ah⟩
 rintro kk τ ⟨i,l2,qE,yz,hd,rfl⟩;rcases jP i o.dropped.length with h|h
 ·have h1:(i:Int)<(l2.length:Int):=by omega
  obtain⟨z,hz⟩:∃z,o.dropped[i]? =some z:=⟨_,aX h⟩
  have Kf:=vP hd hz;have rU:(l2.set i 99).drop (i+1)=o.dropped.drop (i+1):=by rw[zaR];exact pD hd
  repeat' (first|(refine hK _ ?_;clear hK K)|refine ag (id:=18) (.range 11) ?_|intro K hK|intro hc|refine xyZ ?_|refine aF ?_ ?_|refine zbq ?_|(refine bL (dB (99:Int) rfl rfl iI iI iI rfl (by assumption) rfl) ?_;intro gx))
  --Qp
  exact⟨kk - 1,_,by omega,⟨i+1,_,by omega,by rw[TY];exact yz,rU,rfl⟩,cG,rfl,ah⟩
 have h1:¬(i:Int)<(l2.length:Int):=by omega
 clear hd qE h;repeat' (first|(refine hK _ ?_;clear hK K)|intro K hK|intro hc|refine xyZ ?_|refine aF ?_ ?_|refine zw4 ?_)
 exact aC (.inl rfl) rfl rfl ⟨(),rfl,ah⟩
theorem A4 (l:List UInt32) (hl:l.length<=1000) (va vb):Spec ucC w0 155 [va,vb] (rows 26 1 cA va l*rows 26 1 cA vb l) (λ_:Unit=> .bool true) (λ_=>rows 26 1 cA va l*rows 26 1 cA vb l):=by
 refine eZ Tryz.func155 Tryz.ntmps155 λG=> ?_;simp only[aN,ad];repeat' (first|intro hc|refine xyZ ?_|refine aF ?_ ?_|refine zha ?_)
 refine aV (λkk τ=>∃(i:Nat),i+kk=l.length/\τ=⟨[(5,.int .i64 (i:Int)),(0,va),(1,vb)],[],rows 26 1 cA va l*(rows 26 1 cA vb l*G)⟩) ?_ ?_
 ·exact pa2
 rintro kk τ ⟨i,qE,rfl⟩;rcases jP i l.length with h|h
 ·have h1:(i:Int)<(l.length:Int):=by omega
  obtain⟨z,hz⟩:∃z,l[i]? =some z:=⟨_,aX h⟩
  repeat' (first|refine ag (id:=6) (.range 9) ?_|intro hc|refine xyZ ?_|refine aF ?_ ?_|refine zbq ?_)
  --tg
  exact⟨kk - 1,_,by omega,⟨i+1,by omega,rfl⟩,cG,rfl,ah⟩
 have h1:¬(i:Int)<(l.length:Int):=by omega
 exact paN
theorem Fb (l:Ln) (hb:l.before.length<=1000) (s1 s2):Spec ucC w0 106 [.agg (bJ (l,s1)).toArray,.agg (bJ (l,s2)).toArray] (rows 26 1 cA (il l s1) (aQ l.before)*rows 26 1 cA (il l s2) (aQ l.before)) (λ_:Unit=> .bool true) (λ_=>rows 26 1 cA (il l s1) (aQ l.before)*rows 26 1 cA (il l s2) (aQ l.before)):=by
 refine eZ Tryz.func106 Tryz.ntmps106 λG=> ?_;simp only[aN,ad,bJ,bM];have p1:=A4 w0 (aQ l.before) (by rw[cF];exact hb) (il l s1) (il l s2);repeat' (first|intro hc|refine yZ ?_|refine aF ?_ ?_|refine zw8 ?_|refine cZ p1 λu1=> ?_)
 --Qp
 exact aC (.inl rfl) rfl rfl ⟨(),rfl,ah⟩
theorem YK:([.int .u32 77,u32 0,.int .i64 0,u32 0,.bool false,u64 0,.slice none 0 0]:List Value)=bJ ((⟨77,0,0,0,false,0,[]⟩,(none,0)):da):=by
 simp only[bJ,bM,il];rw[show(aQ ([]:List UInt32)).length=0 from by rw[cF];rfl];rfl
theorem oV {xs ys:List da} (h:xs.map (·.1)=ys.map (·.1)) {i:Nat} {p q} (hp:xs[i]? =some p) (hq:ys[i]? =some q):p.1=q.1:=by
 have:=G2 (λx=>x[i]?) h;simp only[zA,hp,hq,EL,Z9]at this;exact this
theorem ED (xs ys:List da) (hm:xs.map (·.1)=ys.map (·.1)) (hl:xs.length<=1000) (hb:∀p∈xs,p.1.before.length<=1000) (va vb):Spec ucC w0 51 [va,vb] (rows 53 7 bJ va xs*(cQ xs*(rows 53 7 bJ vb ys*cQ ys))) (λ_:Unit=> .bool true) (λ_=>rows 53 7 bJ vb ys*cQ ys):=by
 refine eZ Tryz.func51 Tryz.ntmps51 λG=> ?_;simp only[aN,ad];have hlen:xs.length=ys.length:=by simpa using G2 List.length hm
 repeat' (first|intro hc|refine xyZ ?_|refine aF ?_ ?_|refine zha ?_)
 refine aV (λkk τ=>∃(i:Nat),i+kk=xs.length/\τ=⟨[(5,.int .i64 (i:Int)),(0,va),(1,vb)],[],rows 53 7 bJ va xs*(cQ xs*(rows 53 7 bJ vb ys*(cQ ys*G)))⟩) ?_ ?_
 ·exact⟨xs.length,_,⟨0,by omega,rfl⟩,cG,rfl,ah⟩
 ·rintro kk τ ⟨i,qE,rfl⟩;rcases jP i xs.length with h|h
  ·have h1:(i:Int)<(xs.length:Int):=by omega
   obtain⟨p,hp⟩:∃z,xs[i]? =some z:=⟨_,aX h⟩
   obtain⟨q,hq⟩:∃z,ys[i]? =some z:=⟨_,aX (by omega)⟩
   have UD:=oV hm hp hq;have Iz:=hb p (jq hp);obtain⟨l,s1⟩:=p;obtain⟨l2,s2⟩:=q;obtain rfl:l=l2:=UD;have p1:=Fb w0 l Iz s1 s2;rw[rF hp,rF hq];simp only[ad];repeat' (first|refine ae (id:=6) (.range 10) 8 [2,3,6,7] ?_|intro hc|refine xyZ ?_|refine aF ?_ ?_|refine zbj ?_|refine cZ p1 λu1=> ?_)
   --Vv
   exact⟨kk - 1,_,by omega,⟨i+1,by omega,rfl⟩,cG,rfl,ah⟩
  have h1:¬(i:Int)<(xs.length:Int):=by omega
  repeat' (first|intro hc|refine xyZ ?_|refine aF ?_ ?_|refine zw4 ?_)
  refine aV (λxx τ=>∃(j:Nat) (zs:List da),j+xx=xs.length/\zs.length=xs.length/\zs.drop j=xs.drop j/\τ=⟨[(7,.int .i64 (j:Int)),(0,va)],[],rows 53 7 bJ va zs*(cQ (xs.drop j)*(rows 53 7 bJ vb ys*(cQ ys*G)))⟩) ?_ ?_
  ·exact⟨xs.length,_,⟨0,xs,by omega,rfl,rfl,rfl⟩,cG,rfl,by rw[ua0];exact ah⟩
  rintro xx τ ⟨j,zs,ym,O8,RG,rfl⟩;rcases jP j xs.length with hj|hj
  ·have h2:(j:Int)<(zs.length:Int):=by omega
   obtain⟨p,hp⟩:∃z,xs[j]? =some z:=⟨_,aX hj⟩
   have Zl:=vP RG hp;have hd:cQ (xs.drop j)=rows 26 1 cA (il p.1 p.2) (aQ p.1.before)*cQ (xs.drop (j+1)):=by
    obtain⟨h2,h3⟩:=az.1 hp;rw[Sb h2,h3];rfl
   have Iz:=hb p (jq hp);obtain⟨l,s1⟩:=p;replace Iz:l.before.length<=1000:=Iz;have Lw:=cF l.before;rw[hd];simp only[ad];repeat' (first|intro hc|refine xyZ ?_|refine aF ?_ ?_|refine zw8 ?_)
   refine aV (λPd τ=>∃(t:Nat) (bs:List UInt32),t+Pd=l.before.length/\bs.length=l.before.length/\τ=⟨[(8,.int .i64 (t:Int)),(7,.int .i64 (j:Int)),(0,va)],[],rows 53 7 bJ va zs*(rows 26 1 cA (il l s1) bs*(cQ (xs.drop (j+1))*(rows 53 7 bJ vb ys*(cQ ys*G))))⟩) ?_ ?_
   ·exact⟨l.before.length,_,⟨0,aQ l.before,by omega,Lw,rfl⟩,cG,rfl,ah⟩
   rintro Pd τ ⟨t,bs,gK,yl,rfl⟩;rcases jP t l.before.length with ht|ht
   ·have h3:(t:Int)<((aQ l.before).length:Int):=by omega
    have h4:t<bs.length:=by omega
    obtain⟨z,hz⟩:∃z,bs[t]? =some z:=⟨_,aX h4⟩
    repeat' (first|intro hc|refine xyZ ?_|refine aF ?_ ?_|refine zw8 ?_|(refine bL (dB (99:UInt32) rfl rfl iI iI iI rfl (by assumption) rfl) ?_;intro gx))
    --tg
    exact⟨Pd - 1,_,by omega,⟨t+1,bs.set t 99,by omega,by rw[TY];exact yl,rfl⟩,cG,rfl,ah⟩
   have h3:¬(t:Int)<((aQ l.before).length:Int):=by omega
   repeat' (first|intro hc|refine xyZ ?_|refine aF ?_ ?_|refine zw4 ?_|(refine bL (gV ((⟨77,0,0,0,false,0,[]⟩,(none,0)):da) rfl rfl YK iI iI iI rfl rfl (by first|assumption|omega)) ?_;intro gx))
   --Vw
   exact⟨xx - 1,_,by omega,⟨j+1,zs.set j (⟨77,0,0,0,false,0,[]⟩,(none,0)),by omega,by rw[TY];exact O8,by rw[zaR];exact pD RG,rfl⟩,cG,rfl,ah⟩
  have h2:¬(j:Int)<(zs.length:Int):=by omega
  exact paN
end
end Go.Proofs.YtapoehkdnglahabGreat

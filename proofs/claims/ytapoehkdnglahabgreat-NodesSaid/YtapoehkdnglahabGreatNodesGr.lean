/- A part of what Nodes needs. -/
import Derived.Test.YtapoehkdnglahabGreatNodesGq
set_option maxHeartbeats 16000000
set_option maxRecDepth 100000
set_option linter.unusedVariables false
set_option linter.unusedSimpArgs false
set_option linter.unusedSectionVars false
namespace Go.Proofs.YtapoehkdnglahabGreat
section
open Go.RowKit
theorem Spec.sliced {P:Program} {w0:World} {f:FuncId} {args:List Value} {X Y:af} {α:Type} {e:TypeId} {size:Nat} {g:α→List Value} {l:List α} (h:Spec P w0 f args X (fun v:Value=>v) (fun v=>rows e size g v l*Y)):Spec P w0 f args X (fun s:Option Addr×Nat=> .slice s.1 l.length s.2) (fun s=>rows e size g (.slice s.1 l.length s.2) l*Y):=fun G w hs=>(h G w hs).mono fun e w' ⟨x,he,hx⟩=>by
 have qb:=hx
 rw[ad]at qb
 obtain⟨A,c,rfl⟩:=gz qb
 exact⟨(A,c),he,hx⟩
theorem Cp {l:List Rec} {k:Nat} {z:Rec} (h:l[k]? =some z) (a q:UInt32):gH (l.take (k+1)) a q=(gH (l.take k) a q||(decide (z.addr=a)&&decide (q≤z.seq))):=by
 rw[List.take_add_one,h]
 simp[gH]
theorem CT {L:List Ln} {i:Nat} {l:Ln} (h:L[i]? =some l) (s:Nd):(L.take (i+1)).foldl Nd.cf s=((L.take i).foldl Nd.cf s).cf l:=by
 rw[List.take_add_one,h]
 simp
theorem Twin.Mj {W:TW} {s:Nd} {d:RD} (h:Twin W s d) (ok:aW s.ls):d.held.length≤8:=by
 have hn:(d.held.map (·.addr)).Nodup:=by
  rw[List.nodup_iff_pairwise_ne,List.pairwise_map]
  refine(List.Pairwise.and_mem.1 h.mY.fH).imp ?_
  rintro a b ⟨ha,hb,bW⟩ e
  have na:=h.mY.norm a ha
  have nb:=h.mY.norm b hb
  exact tP na nb bW ((Rec.oT na nb).2 ⟨by rw[(h.kg a ha).1,(h.kg b hb).1],e⟩)
 have hs:d.held.map (·.addr)⊆ aO s.ls:=by
  intro x hx
  obtain⟨r,hr,rfl⟩:=List.mem_map.1 hx
  obtain⟨_,l,hl,he⟩:=h.kg r hr
  rw[←he]
  exact List.mem_map_of_mem hl
 have:=List.Nodup.length_le_of_subset hn hs
 simp only[List.length_map,aO]at this
 have:=ok.short
 omega
attribute [local irreducible] WS LS cD eM cn cv Spec bA aK di cq
variable (w0:World)
theorem qS (W:TW) (gn:Nat) (s:Nd) (ok:aW s.ls) (hr:s.aI.length≤400000) (hj:s.out.ay.length≤800000):Spec Tryz.prog w0 151 [ptr gn 0] (qe W gn s) (fun _:Unit=> .tuple #[]) (fun _=>qe W gn s.note):=by
 refine Spec.enter Tryz.func151 rfl Tryz.ntmps151 rfl fun G=> ?_
 simp only[aN]
 refine rz (W:=W) (g:=gn) (s:=s) iI fun d tw=> ?_
 unfold cR bc cy
 simp only[ad]
 refine mP (g:=d.tb) (self:=s.self) (ls:=s.ls) iI fun v xs hR=> ?_
 unfold eA
 simp only[ad]
 have Ly:=hR.list ok
 have Hs:=hR.length
 have ta:=ok.short
 repeat' (first|(show WS _ _ _ (.seq (.seq (.region 0 _ _) _) _) _ _;refine ab ?_;intro K hK;refine nC hK (fun τ=>∃(s1:Nd) (vr:Value),s1=s.dh∧Twin W s1 {d with vr:=vr}∧s1.aI.length≤s.aI.length+1∧s1.out.ay.length≤s.out.ay.length+13∧τ=⟨[(0,ptr gn 0)],[],aK gn 195 (bN s1 {d with vr:=vr} s1.out)*(rows 28 3 Rec.cells vr s1.aI*(rows 28 3 Rec.cells d.vh d.held*(aK d.tb 197 [u32 s.self,v]*(rows 53 7 bJ v xs*(cQ xs*(rows 48 2 dA d.vf s.out.aJ*(rows 70 2 dA d.vc s.out.cj*(rows 166 1 lr d.vd s.out.dropped*(cc d.vs d.vw d.vq d.vt d.seen d.wait d.search d.aP*G)))))))))⟩) ?_ ?_)|refine ag (id:=0) (.range 9) ?_|(refine ab ?_;intro K hK)|(refine hK _ ?_;clear hK K)|refine ax ?_|(refine aF ?_ ?_<;>intro hc<;>(try simp only[cS]at hc)<;>(try exact aG))|refine az ?_|((first|refine dn rfl rfl iI rfl ?_ ?_|refine dm rfl rfl iI rfl ?_ ?_|refine dU rfl rfl iI rfl ?_ ?_)<;>intro hc)|(refine bQ ?_;intro g))
 ·have bW:s.own<s.seq:=of_decide_eq_true hc
  have p1:=sF w0 gn {s with own:=s.seq} d ⟨true,0,s.seq⟩ (by show s.aI.length≤500000;omega) (by show s.out.ay.length≤900000;omega)
  simp only[bN,Nd.Qe,Rec.cells]at p1
  repeat' (first|refine ax ?_|(refine ai (aa iI rfl p1 iI) rfl ?_;intro va))
  have e1:s.dh=s.write ⟨true,0,s.seq⟩:=by unfold Nd.dh;rw[if_pos bW]
  exact⟨_,⟨s.write ⟨true,0,s.seq⟩,va,e1.symm,tw.own _ rfl va,by show(s.aI++[_]).length≤_;simp,by show(s.out.ay++Rec.bytes _).length≤_;rw[List.length_append,Rec.dz];omega,rfl⟩,⟨rfl,trivial⟩,rfl,by simp only[bN,Nd.write,if_true,Bool.false_eq_true,if_false];exact ah⟩
 ·have e1:s.dh=s:=by unfold Nd.dh;rw[if_neg (of_decide_eq_false (by assumption))]
  exact⟨_,⟨s,d.vr,e1.symm,tw,by omega,by omega,rfl⟩,⟨rfl,trivial⟩,rfl,by simp only[bN];exact ah⟩
 rintro τ ⟨s1,YS,e1,uO,S0,IC,rfl⟩
 have YL:s.fz s1:=by rw[e1];exact Nd.fz.dh s
 repeat' (first|(refine ab ?_;intro K hK)|(refine hK _ ?_;clear hK K)|refine ax ?_|refine az ?_)
 refine aV (fun kk τ=>∃(i:Nat) (s':Nd) (vr vh:Value) (hl:List Rec),i+kk=xs.length∧s'=((cE s.ls).take i).foldl Nd.cf s1∧Twin W s' {d with vr:=vr,vh:=vh,held:=hl}∧s'.aI.length≤s.aI.length+1+i∧s'.out.ay.length≤s.out.ay.length+13*(1+i)∧τ=⟨[(2,.int .i64 (i:Int)),(0,ptr gn 0)],[],aK gn 195 (bN s' {d with vr:=vr,vh:=vh} s'.out)*(rows 28 3 Rec.cells vr s'.aI*(rows 28 3 Rec.cells vh hl*(aK d.tb 197 [u32 s.self,v]*(rows 53 7 bJ v xs*(cQ xs*(rows 48 2 dA d.vf s.out.aJ*(rows 70 2 dA d.vc s.out.cj*(rows 166 1 lr d.vd s.out.dropped*(cc d.vs d.vw d.vq d.vt d.seen d.wait d.search d.aP*G)))))))))⟩) ?_ ?_
 ·exact⟨xs.length,_,⟨0,s1,YS,d.vh,d.held,by omega,rfl,uO,by omega,by omega,rfl⟩,cG,rfl,ah⟩
 rintro kk τ ⟨i,s',vr,vh,hl,qE,eI,LC,Wg,Za,rfl⟩
 have Re:s'.ls=s.ls:=by rw[eI,(Nd.fz.oW _ _).ls,YL.ls]
 have Y7:hl.length≤8:=LC.Mj (by rw[Re];exact ok)
 rcases Nat.lt_or_ge i xs.length with h|h
 ·have h1:(i:Int)<(xs.length:Int):=by omega
  obtain⟨p,hp⟩:∃p,xs[i]? =some p:=⟨_,List.getElem?_eq_getElem h⟩
  have Mn:(cE s.ls)[i]? =some p.1:=by rw[←Ly,List.getElem?_map,hp];rfl
  have Rl:p.1∈s'.ls:=by rw[Re];exact hR.mem (List.mem_of_getElem? hp)
  have jf:=CT Mn s1
  rw[←eI]at jf
  have Kc:=LC.cf p.1
  simp only[bN]
  repeat' (first|refine ae (id:=6) (.range 25) 24 [3,6,8,9,10,14,17,19,20,21] ?_|(refine ab ?_;intro K hK)|(refine hK _ ?_;clear hK K)|refine ax ?_|(refine aF ?_ ?_<;>intro hc<;>(try simp only[cS]at hc)<;>(try exact aG))|(refine aL iI rfl ?_;intro g)|refine aX ?_|refine az ?_|(refine bQ ?_;intro g))
  rename_i gx
  refine aV (fun xx τ=>∃(k:Nat),k+xx=hl.length∧τ=⟨[(5,.int .i64 (k:Int)),(4,.bool (gH (hl.take k) p.1.dest p.1.seq)),(3,ptr gx 0),(2,.int .i64 (i:Int)),(0,ptr gn 0)],[],aK gx 28 [.bool false,u32 p.1.dest,u32 p.1.seq]*(aK gn 195 (bN s' {d with vr:=vr,vh:=vh} s'.out)*(rows 28 3 Rec.cells vr s'.aI*(rows 28 3 Rec.cells vh hl*(aK d.tb 197 [u32 s.self,v]*(rows 53 7 bJ v xs*(cQ xs*(rows 48 2 dA d.vf s.out.aJ*(rows 70 2 dA d.vc s.out.cj*(rows 166 1 lr d.vd s.out.dropped*(cc d.vs d.vw d.vq d.vt d.seen d.wait d.search d.aP*G))))))))))⟩) ?_ ?_
  ·exact⟨hl.length,_,⟨0,by omega,rfl⟩,cG,rfl,by simp only[bN];exact ah⟩
  ·rintro xx τ ⟨k,u6,rfl⟩
   simp only[bN]
   rcases Nat.lt_or_ge k hl.length with hk|hk
   ·have Cg:(k:Int)<(hl.length:Int):=by omega
    obtain⟨z,hz⟩:∃z,hl[k]? =some z:=⟨_,List.getElem?_eq_getElem hk⟩
    have ht:=Cp hz p.1.dest p.1.seq
    generalize hb:gH (hl.take k) p.1.dest p.1.seq=b at*
    cases b with
    |true=>
     rw[Bool.true_or]at ht
     repeat' (first|refine ag (id:=11) (.range 28) ?_|(refine ab ?_;intro K hK)|(refine hK _ ?_;clear hK K)|refine ax ?_|(refine aF ?_ ?_<;>intro hc<;>(try simp only[cS]at hc)<;>(try exact aG))|refine aX ?_|refine az ?_)
     --tg
     exact⟨xx - 1,_,by omega,⟨k+1,by omega,rfl⟩,⟨rfl,by rw[ht];rfl,rfl,rfl,rfl,trivial⟩,rfl,by simp only[bN];exact ah⟩
    |false=>
     rw[Bool.false_or]at ht
     by_cases h2:z.addr=p.1.dest
     ·by_cases h3:p.1.seq≤z.seq
      ·rw[decide_eq_true h2,decide_eq_true h3,Bool.true_and]at ht
       repeat' (first|refine ag (id:=11) (.range 28) ?_|(refine ab ?_;intro K hK)|(refine hK _ ?_;clear hK K)|refine ax ?_|(refine aF ?_ ?_<;>intro hc<;>(try simp only[cS]at hc)<;>(try exact aG))|refine aX ?_|refine az ?_)
       exact⟨xx - 1,_,by omega,⟨k+1,by omega,rfl⟩,⟨rfl,by rw[ht];rfl,rfl,rfl,rfl,trivial⟩,rfl,by simp only[bN];exact ah⟩
      ·rw[decide_eq_false h3,Bool.and_false]at ht
       repeat' (first|refine ag (id:=11) (.range 28) ?_|(refine ab ?_;intro K hK)|(refine hK _ ?_;clear hK K)|refine ax ?_|(refine aF ?_ ?_<;>intro hc<;>(try simp only[cS]at hc)<;>(try exact aG))|refine aX ?_|refine az ?_)
       exact⟨xx - 1,_,by omega,⟨k+1,by omega,rfl⟩,⟨rfl,by rw[ht];rfl,rfl,rfl,rfl,trivial⟩,rfl,by simp only[bN];exact ah⟩
     ·rw[decide_eq_false h2,Bool.false_and]at ht
      repeat' (first|refine ag (id:=11) (.range 28) ?_|(refine ab ?_;intro K hK)|(refine hK _ ?_;clear hK K)|refine ax ?_|(refine aF ?_ ?_<;>intro hc<;>(try simp only[cS]at hc)<;>(try exact aG))|refine aX ?_|refine az ?_)
      exact⟨xx - 1,_,by omega,⟨k+1,by omega,rfl⟩,⟨rfl,by rw[ht];rfl,rfl,rfl,rfl,trivial⟩,rfl,by simp only[bN];exact ah⟩
   ·obtain rfl:k=hl.length:=by omega
    have Cg:¬(hl.length:Int)<(hl.length:Int):=by omega
    rw[List.take_length]
    generalize hb:gH hl p.1.dest p.1.seq=b at*
    cases b with
    |true=>
     rw[if_pos rfl]at Kc
     repeat' (first|(refine ab ?_;intro K hK)|(refine hK _ ?_;clear hK K)|refine ax ?_|(refine aF ?_ ?_<;>intro hc<;>(try simp only[cS]at hc)<;>(try exact aG))|refine aX ?_|refine az ?_)
     exact⟨kk - 1,_,by omega,⟨i+1,s',vr,vh,hl,by omega,by rw[jf,Kc],LC,by omega,by omega,rfl⟩,cG,rfl,by simp only[bN];exact ah⟩
    |false=>
     rw[if_neg (by decide)]at Kc
     have lD:=fun va vb=>(LC.line Rl va vb).resolve_right (by show ¬gH hl p.1.dest p.1.seq=true;rw[hb];decide)
     have pc:=fun v=>(mI w0 ([]++hl++[⟨false,p.1.dest,p.1.seq⟩]) (by simp;omega) v (rows 28 3 Rec.cells v ([]++hl++[⟨false,p.1.dest,p.1.seq⟩]))).sliced
     have p2:=fun vb=>sF w0 gn s' {d with vr:=vr,vh:=vb} ⟨false,p.1.dest,p.1.seq⟩ (by omega) (by omega)
     simp only[bN,Nd.Qe,Rec.cells]at p2
     repeat' (first|(refine ab ?_;intro K hK)|(refine hK _ ?_;clear hK K)|refine ax ?_|(refine aF ?_ ?_<;>intro hc<;>(try simp only[cS]at hc)<;>(try exact aG))|refine aX ?_|refine az ?_)
     refine nC hK (fun τ=>∃vb:Value,τ=⟨[(3,ptr gx 0),(2,.int .i64 (i:Int)),(0,ptr gn 0)],[],aK gx 28 [.bool false,u32 p.1.dest,u32 p.1.seq]*(aK gn 195 (bN s' {d with vr:=vr,vh:=vb} s'.out)*(rows 28 3 Rec.cells vr s'.aI*(rows 28 3 Rec.cells vb (cC (hl++[gB p.1.dest p.1.seq]))*(aK d.tb 197 [u32 s.self,v]*(rows 53 7 bJ v xs*(cQ xs*(rows 48 2 dA d.vf s.out.aJ*(rows 70 2 dA d.vc s.out.cj*(rows 166 1 lr d.vd s.out.dropped*(cc d.vs d.vw d.vq d.vt d.seen d.wait d.search d.aP*G))))))))))⟩) ?_ ?_
     ·simp only[bN]
      refine rA (aK gx 28 [.bool false,u32 p.1.dest,u32 p.1.seq]) _ [6,9,10,13] rfl ?_
      refine ec 0 rfl (fun F'=>by exact bC rfl) ?_
      refine ec 2 rfl (fun F'=>by exact bC rfl) ?_
      refine ec 3 rfl (fun F'=>by exact db rfl) ?_
      refine ec 4 rfl (fun F'=>by first|exact bq rfl iI rfl|exact eG rfl iI iI rfl (by first|assumption|omega)) ?_
      refine yQ 5 rfl (fun F'=>by first|exact cm rfl iI iI rfl|exact kZ rfl iI iI rfl|exact lg rfl iI iI iI (by assumption) rfl|exact ja rfl iI iI iI (by assumption)) ?_
      refine ec 7 rfl (fun F'=>by first|exact cm rfl iI iI rfl|exact kZ rfl iI iI rfl|exact lg rfl iI iI iI (by assumption) rfl|exact ja rfl iI iI iI (by assumption)) ?_
      refine ed [1,8] ⟨?_,?_,trivial⟩
      ·refine wb 1 rfl (fq Rec.cells iI iI) fun x1=> ?_
       refine ed [6,8] ⟨?_,?_,trivial⟩
       ·refine kx ?_;refine oD 6 rfl (dH (rows 28 3 Rec.cells vh hl) rfl rfl iI iI iI rfl iI iI cO (by first|omega|(simp;omega)) rfl) fun x6=> ?_
        refine ed [8] ⟨?_,trivial⟩
        refine oD 8 rfl (au Rec.cells [⟨false,p.1.dest,p.1.seq⟩] iI iI iI rfl rfl rfl rfl rfl iI rfl rfl rfl) fun x8=> ?_
        refine ed [9] ⟨?_,trivial⟩
        refine oD 9 rfl (aR rfl rfl iI iI rfl iI iI cO (by first|omega|(simp;omega)) rfl) fun x9=> ?_
        refine ed [10] ⟨?_,trivial⟩
        refine oD 10 rfl (aa iI rfl (pc x9) iI) fun NR=> ?_
        refine ec 11 rfl (fun F'=>by exact db rfl) ?_
        refine ec 12 rfl (fun F'=>by first|exact bq rfl iI rfl|exact eG rfl iI iI rfl (by first|assumption|omega)) ?_
        refine ed [13] ⟨?_,trivial⟩
        refine uo 13 rfl (kV rfl rfl iI rfl iI rfl) fun WM=> ?_
        refine oE ?_
        exact⟨_,⟨.slice NR.1 (cC (hl++[gB p.1.dest p.1.seq])).length NR.2,rfl⟩,cG,rfl,by simp only[List.nil_append,gB];exact ah⟩
       ·refine wb 8 rfl (au Rec.cells [⟨false,p.1.dest,p.1.seq⟩] iI iI iI rfl rfl rfl rfl rfl iI rfl rfl rfl) fun x8=> ?_
        refine ed [6] ⟨?_,trivial⟩
        refine kx ?_;refine oD 6 rfl (dH (rows 28 3 Rec.cells vh hl) rfl rfl iI iI iI rfl iI iI cO (by first|omega|(simp;omega)) rfl) fun x6=> ?_
        refine ed [9] ⟨?_,trivial⟩
        refine oD 9 rfl (aR rfl rfl iI iI rfl iI iI cO (by first|omega|(simp;omega)) rfl) fun x9=> ?_
        refine ed [10] ⟨?_,trivial⟩
        refine oD 10 rfl (aa iI rfl (pc x9) iI) fun NR=> ?_
        refine ec 11 rfl (fun F'=>by exact db rfl) ?_
        refine ec 12 rfl (fun F'=>by first|exact bq rfl iI rfl|exact eG rfl iI iI rfl (by first|assumption|omega)) ?_
        refine ed [13] ⟨?_,trivial⟩
        refine uo 13 rfl (kV rfl rfl iI rfl iI rfl) fun WM=> ?_
        refine oE ?_
        exact⟨_,⟨.slice NR.1 (cC (hl++[gB p.1.dest p.1.seq])).length NR.2,rfl⟩,cG,rfl,by simp only[List.nil_append,gB];exact ah⟩
      ·refine wb 8 rfl (au Rec.cells [⟨false,p.1.dest,p.1.seq⟩] iI iI iI rfl rfl rfl rfl rfl iI rfl rfl rfl) fun x8=> ?_
       refine ed [1] ⟨?_,trivial⟩
       refine wb 1 rfl (fq Rec.cells iI iI) fun x1=> ?_
       refine ed [6] ⟨?_,trivial⟩
       refine kx ?_;refine oD 6 rfl (dH (rows 28 3 Rec.cells vh hl) rfl rfl iI iI iI rfl iI iI cO (by first|omega|(simp;omega)) rfl) fun x6=> ?_
       refine ed [9] ⟨?_,trivial⟩
       refine oD 9 rfl (aR rfl rfl iI iI rfl iI iI cO (by first|omega|(simp;omega)) rfl) fun x9=> ?_
       refine ed [10] ⟨?_,trivial⟩
       refine oD 10 rfl (aa iI rfl (pc x9) iI) fun NR=> ?_
       refine ec 11 rfl (fun F'=>by exact db rfl) ?_
       refine ec 12 rfl (fun F'=>by first|exact bq rfl iI rfl|exact eG rfl iI iI rfl (by first|assumption|omega)) ?_
       refine ed [13] ⟨?_,trivial⟩
       refine uo 13 rfl (kV rfl rfl iI rfl iI rfl) fun WM=> ?_
       refine oE ?_
       exact⟨_,⟨.slice NR.1 (cC (hl++[gB p.1.dest p.1.seq])).length NR.2,rfl⟩,cG,rfl,by simp only[List.nil_append,gB];exact ah⟩
     ·clear hK K
      rintro τ ⟨vb,rfl⟩
      simp only[bN]
      repeat' (first|refine ax ?_|refine az ?_|(refine ai (aa iI rfl (p2 vb) iI) rfl ?_;intro va))
      exact⟨kk - 1,_,by omega,⟨i+1,s'.write ⟨false,p.1.dest,p.1.seq⟩,va,vb,cC (hl++[gB p.1.dest p.1.seq]),by omega,by rw[jf,Kc],lD va vb,by show(s'.aI++[_]).length≤_;simp;omega,by show(s'.out.ay++Rec.bytes _).length≤_;rw[List.length_append,Rec.dz];omega,rfl⟩,cG,rfl,by simp only[bN,Nd.write,if_true,Bool.false_eq_true,if_false];exact ah⟩
 ·obtain rfl:i=xs.length:=by omega
  have h1:¬(xs.length:Int)<(xs.length:Int):=by omega
  have xh:s'=s.note:=by
   rw[eI,e1]
   have yz:(cE s.ls).length=xs.length:=by rw[←Ly,List.length_map]
   rw[←yz,List.take_length]
   unfold Nd.note
   rfl
  have sm:=Nd.fz.note s
  simp only[bN]
  repeat' (first|(refine ab ?_;intro K hK)|(refine hK _ ?_;clear hK K)|refine ax ?_|(refine aF ?_ ?_<;>intro hc<;>(try simp only[cS]at hc)<;>(try exact aG))|refine aX ?_|refine az ?_)
  refine aj (.inr rfl) rfl ⟨(),rfl,?_⟩
  subst xh
  refine aq.rn LC ?_
  unfold cR bc cy
  simp only[ad,bN,sm.aJ,sm.cj,sm.dropped,sm.self,sm.ls]
  have fin:∀A B C Z:af,aq (A*(B*(C*(aK d.tb 197 [u32 s.self,v]*(rows 53 7 bJ v xs*(cQ xs*Z)))))) (A*(B*(C*(ct d.tb s.self s.ls*Z)))):=fun A B C Z=>aq.tail _ (aq.tail _ (aq.tail _ (aq.ct hR (by unfold eA;exact ah))))
  exact fin _ _ _ _
end
section
open Go.RowKit
def j9 (W:TW) (g:Nat) (s:Nd):af:=hex fun x:RD×dS=>pure' (Twin W s x.1)*(aK g 195 (bN s x.1 x.2)*(rows 28 3 Rec.cells x.1.vr s.aI*(rows 28 3 Rec.cells x.1.vh x.1.held*(ct x.1.tb s.self s.ls*bc x.1))))
theorem wB {P:Program} {n:fT} {w0:World} {E:Env} {D:List Deferred} {H F:af} {c:Code} {Q:Exit→St→Prop} {W:TW} {g:Nat} {s:Nd} (hl:Own H (j9 W g s) F) (h:∀d o,Twin W s d→WS P n w0 c Q ⟨E,D,aK g 195 (bN s d o)*(rows 28 3 Rec.cells d.vr s.aI*(rows 28 3 Rec.cells d.vh d.held*(ct d.tb s.self s.ls*(bc d*F))))⟩):WS P n w0 c Q ⟨E,D,H⟩:=by
 rw[hl.eq]
 unfold j9
 refine iU fun x=> ?_
 rw[ad]
 refine jR fun hr=> ?_
 rw[ad,ad,ad,ad]
 exact h x.1 x.2 hr
theorem aq.j9 {W:TW} {g:Nat} {s:Nd} {d:RD} (o:dS) {H F:af} (t:Twin W s d) (h:aq H (aK g 195 (bN s d o)*(rows 28 3 Rec.cells d.vr s.aI*(rows 28 3 Rec.cells d.vh d.held*(Go.Proofs.YtapoehkdnglahabGreat.ct d.tb s.self s.ls*(bc d*F)))))):aq H (j9 W g s*F):=
 aq.trans h (aq.trans (aq.ji t (aq.refl _)) (aq.trans (aq.of_eq (by ac_rfl)) (aq.qA (p:=fun x:RD×dS=>pure' (Twin W s x.1)*(aK g 195 (bN s x.1 x.2)*(rows 28 3 Rec.cells x.1.vr s.aI*(rows 28 3 Rec.cells x.1.vh x.1.held*(Go.Proofs.YtapoehkdnglahabGreat.ct x.1.tb s.self s.ls*bc x.1))))) (d,o))))
theorem Twin.begin {W:TW} {s:Nd} {d:RD} (h:Twin W s d) (now:UInt64) (hn:s.now.toNat≤now.toNat) (vf vc vd:Value) (o:dS):Twin W.next {s with now:=now,out:=o,ls:=mE now s.ls} {d with vf:=vf,vc:=vc,vd:=vd}:=by
 have h7:s.ids.toNat≤W.i0+5+dJ now s.aP:=by
  have h1:=h.oy
  have h2:dJ s.now s.aP≤s.aP.length:=rK _ _
  have h3:s.aP.length≤5:=by rw[h.aP,List.length_drop];omega
  omega
 refine⟨h.held,h.mY,fun x hx=> ?_,h.seen,h.o9,h.oz,h.o7,h.wait,h.mL,h.hP,h.search,h.jT,h.Br,h.fN,h.aP,h.oA,fun t ht=>Nat.le_trans (h.ns t ht) hn,h.nX,h.DB,h.Bp,h.FP,h7⟩
 obtain⟨h1,l,h2,h3⟩:=h.kg x hx
 obtain⟨l',h4,h5⟩:=oI (ls:=s.ls) (IF:=mE now s.ls) (fun y hy=>by rw[zc];exact hy) l h2
 exact⟨h1,l',h4,h5.trans h3⟩
attribute [local irreducible] WS LS cD eM cn cv Spec bA aK di cq
variable (w0:World)
theorem mv (W:TW) (gn:Nat) (s:Nd) (ok:aW s.ls) (hr:s.aI.length≤400000) (now:UInt64) (hn:s.now.toNat≤now.toNat):Spec Tryz.prog w0 101 [ptr gn 0,u64 now] (j9 W gn s) (fun _:Unit=> .tuple #[]) (fun _=>qe W.next gn (s.begin now)):=by
 refine Spec.enter Tryz.func101 rfl Tryz.ntmps101 rfl fun G=> ?_
 simp only[aN]
 refine wB (W:=W) (g:=gn) (s:=s) iI fun d o tw=> ?_
 obtain⟨s1,iu⟩:∃s1:Nd,s1={s with now:=now,out:=dS.zero,ls:=mE now s.ls}:=⟨_,rfl⟩
 have eb:s.begin now=s1.note:=by rw[iu];rfl
 have p1:=KT w0 d.tb s.self s.ls ok now
 have p2:=qS w0 W.next gn s1 (by rw[iu];exact ok.exp now) (by rw[iu];exact hr) (by rw[iu];simp[dS.zero])
 have uO:=tw.begin now hn (.slice none 0 0) (.slice none 0 0) (.slice none 0 0) dS.zero
 rw[←iu]at uO
 simp only[bN]
 repeat' (first|(refine ab ?_;intro K hK)|(refine hK _ ?_;clear hK K)|refine ax ?_|refine az ?_|(refine bQ ?_;intro g)|(refine ai (aa iI rfl p1 iI) rfl ?_;intro u1))
 refine fJ (aq.nil _ 48 2 dA none) ?_
 refine fJ (aq.nil _ 70 2 dA none) ?_
 refine fJ (aq.nil _ 166 1 lr none) ?_
 refine fJ (H':=qe W.next gn s1*G) (aq.rn uO (by rw[iu];unfold cR cy;simp only[bN,dS.zero,ad];exact ah)) ?_
 repeat' (first|refine ax ?_|(refine ai (aa iI rfl p2 iI) rfl ?_;intro u2))
 exact aj (.inr rfl) rfl ⟨(),rfl,by rw[eb];exact ah⟩
theorem nS (W:TW) (gn:Nat) (s:Nd) (ok:aW s.ls) (hr:s.aI.length≤9000) (hj:s.out.ay.length≤800000):Spec Tryz.prog w0 102 [ptr gn 0] (qe W gn s) (fun v:Value×Value×Value=>fp s.done.out v) (fun v=>j9 W gn s.done*ei s.done.out v):=by
 refine Spec.enter Tryz.func102 rfl Tryz.ntmps102 rfl fun G=> ?_
 simp only[aN]
 have p1:=qS w0 W gn s ok (by omega) hj
 have vT:=Nd.nj s ok
 have Dy:=iM s.note.aI
 repeat' (first|(refine ab ?_;intro K hK)|(refine hK _ ?_;clear hK K)|refine ax ?_|refine az ?_|(refine bT ?_;intro g)|(refine ai (aa iI rfl p1 iI) rfl ?_;intro u1))
 refine kA (W:=W) (g:=gn) (s:=s.note) iI fun d tw=> ?_
 unfold cR cy
 simp only[bN,ad]
 by_cases hm:24<s.note.aI.length
 ·have p5:=fun v=>(mI w0 s.note.aI (by omega) v (rows 28 3 Rec.cells v s.note.aI)).sliced
  have p6:=fun v=>qq w0 (cC s.note.aI) (by omega) v (rows 28 3 Rec.cells v (cC s.note.aI))
  have hd:s.done={s.note with aI:=cC s.note.aI,out:={s.note.out with ay:=b9 (cC s.note.aI),replace:=true}}:=by unfold Nd.done;rw[if_pos hm]
  have lD:∀vr,Twin W s.done {d with vr:=vr}:=fun vr=>by
   rw[hd]
   exact⟨tw.held,tw.mY,tw.kg,tw.seen,tw.o9,tw.oz,tw.o7,tw.wait,tw.mL,tw.hP,tw.search,tw.jT,tw.Br,tw.fN,tw.aP,tw.oA,tw.ns,tw.nX,tw.DB,tw.Bp,tw.FP,tw.oy⟩
  repeat' (first|(refine ab ?_;intro K hK)|(refine hK _ ?_;clear hK K)|refine ax ?_|(refine aF ?_ ?_<;>intro hc<;>(try simp only[cS]at hc)<;>(try exact aG))|refine aX ?_|refine az ?_|(refine bQ ?_;intro g)|(refine ai (aa iI rfl (p5 _) iI) rfl ?_;intro vc)|(refine ai (aa iI rfl (p6 _) iI) rfl ?_;intro vb))
  --tg
  refine gD (.inl rfl) rfl (aS rfl iI iI rfl) ⟨(d.vf,d.vc,d.vd),by rw[hd];rfl,?_⟩
  rw[ad]
  refine aq.j9 s.done.out (lD (.slice vc.1 (cC s.note.aI).length vc.2)) ?_
  rw[hd]
  unfold ei bc
  simp only[bN]
  exact ah
 ·have hd:s.done=s.note:=by unfold Nd.done;rw[if_neg hm]
  repeat' (first|(refine ab ?_;intro K hK)|(refine hK _ ?_;clear hK K)|refine ax ?_|(refine aF ?_ ?_<;>intro hc<;>(try simp only[cS]at hc)<;>(try exact aG))|refine aX ?_|refine az ?_|(refine bQ ?_;intro g))
  refine gD (.inl rfl) rfl (aS rfl iI iI rfl) ⟨(d.vf,d.vc,d.vd),by rw[hd];rfl,?_⟩
  rw[hd,ad]
  refine aq.j9 s.note.out tw ?_
  unfold ei
  simp only[bN]
  exact ah
end
section
open Go.RowKit
theorem zw:cE []=[]:=by
 unfold cE
 rw[show aQ (aO [])=[]from List.length_eq_zero_iff.1 (by rw[cF];rfl)]
 rfl
theorem B2 (n i0:Nat) (self:UInt32) (b:List UInt8) (now:UInt64) {H F:af} (gn tb:Nat) (vr vh:Value) (q:UInt32) (si:UInt64) (ls:List Ln) (eb:Nd.bO self b now={Nd.blank self with seq:=q,ls:=ls,cd:=si})
 (e:aq H (aK gn 195 [u32 self,u32 q,ptr tb 0,vr,u64 si,.slice none 0 0,.slice none 0 0,.slice none 0 0,.int .i64 0,u32 0,u32 0,.slice none 0 0,u64 0,aZ [],.bool false,.slice none 0 0,.slice none 0 0,.slice none 0 0,vh,u32 q]*(rows 28 3 Rec.cells vr (⟨true,0,q⟩::dM (cE ls))*(rows 28 3 Rec.cells vh (dM (cE ls))*(ct tb self ls*F))))):
 aq H ((j9 ⟨n,none,i0⟩ gn (Nd.new self b now)*ei (Nd.gZ self b now) (.slice none 0 0,.slice none 0 0,.slice none 0 0))*F):=by
 obtain⟨tw,wr⟩:=Nd.CN n i0 self b now ⟨tb,vr,.slice none 0 0,.slice none 0 0,.slice none 0 0,.slice none 0 0,.slice none 0 0,.slice none 0 0,.slice none 0 0,vh,[],[],[],[],[]⟩ rfl rfl rfl rfl rfl
 obtain⟨k1,k2,k3,k4,k5,k6⟩:=Nd.sq self b now
 obtain⟨_,_,⟨s1,s2,s3,s4,s5,s6,s7,s8,s9⟩,_⟩:=wr
 rw[eb]at tw k1 s1 s2 s3 s4 s5 s6 s7 s8 s9
 have f1:(Nd.gZ self b now).aJ=[]:=k3
 have f2:(Nd.gZ self b now).cj=[]:=k4
 have f3:(Nd.gZ self b now).dropped=[]:=k5
 rw[ad]
 refine aq.j9 dS.zero tw ?_
 unfold ei bc cc
 rw[f1,f2,f3]
 simp only[bN,k1,s1,s2,s3,s4,s5,s6,s7,s8,s9,Nd.write,Nd.blank,dS.zero,if_true,ad]
 refine e.trans ?_
 refine(aq.nil _ 48 2 dA none).trans ?_
 refine(aq.nil _ 70 2 dA none).trans ?_
 refine(aq.nil _ 166 1 lr none).trans ?_
 refine(aq.nil _ 312 3 jM none).trans ?_
 refine(aq.nil _ 243 2 dA none).trans ?_
 refine(aq.nil _ 210 6 uM none).trans ?_
 refine(aq.nil _ 24 1 eL none).trans ?_
 exact ah
attribute [local irreducible] WS LS cD eM cn cv Spec bA aK di cq
variable (w0:World)
theorem E9 (b:List UInt8) (now:UInt64):Spec Tryz.prog w0 45 [u32 0,aZ b,u64 now] emp (fun _:Unit=> .tuple #[.pointer none,xQ,.int .i64 5]) (fun _=>emp):=by
 refine Spec.enter Tryz.func45 rfl Tryz.ntmps45 rfl fun G=> ?_
 simp only[aN]
 have hz:(0:UInt32)=0:=rfl
 repeat' (first|(refine ab ?_;intro K hK)|(refine hK _ ?_;clear hK K)|refine ax ?_|(refine aF ?_ ?_<;>intro hc<;>(try simp only[cS]at hc)<;>(try exact aG))|refine az ?_|((refine' LQ ?zh rfl ?_);case zh=>intro F';exact bp rfl rfl iI (by first|assumption|omega|decide|rfl))|(refine bT ?_;intro g)|(refine bQ ?_;intro g))
 exact qm (.inl rfl) rfl (bh rfl) (aS rfl iI iI rfl) (bh rfl) ⟨(),rfl,ah⟩
theorem Ic (n i0:Nat) (self:UInt32) (h0:self≠0) (b:List UInt8) (hb:b.length≤1000000) (now:UInt64):Spec Tryz.prog w0 45 [u32 self,aZ b,u64 now] emp (fun x:Nat×(Value×Value×Value)=> .tuple #[ptr x.1 0,fp (Nd.gZ self b now) x.2,.int .i64 0]) (fun x=>j9 ⟨n,none,i0⟩ x.1 (Nd.new self b now)*ei (Nd.gZ self b now) x.2):=by
 refine Spec.enter Tryz.func45 rfl Tryz.ntmps45 rfl fun G=> ?_
 simp only[aN]
 obtain⟨k1,k2,k3,k4,k5,k6⟩:=Nd.sq self b now
 by_cases JP:b=[]
 ·subst JP
  have p1:=mz w0 ⟨true,0,1⟩
  simp only[Rec.cells]at p1
  have eb:Nd.bO self [] now={Nd.blank self with seq:=1,ls:=[],cd:=0}:=rfl
  repeat' (first|(refine ab ?_;intro K hK)|(refine hK _ ?_;clear hK K)|refine ax ?_|(refine aF ?_ ?_<;>intro hc<;>(try simp only[cS]at hc)<;>(try exact aG))|refine az ?_|((refine' LQ ?zh rfl ?_);case zh=>intro F';first|exact bp rfl rfl iI (by first|assumption|omega|decide|rfl)|exact bH rfl rfl iI (by first|assumption|omega|decide|rfl))|(refine bT ?_;intro g)|(refine bQ ?_;intro g)|(refine ai (au Rec.cells [⟨true,0,1⟩] iI iI iI rfl rfl rfl rfl rfl iI rfl rfl rfl) rfl ?_;intro vr)|(refine ai (aa iI rfl p1 ⟨aB.symm⟩) rfl ?_;intro u1))
  rename_i x7 x6 x5 x4 x3 x2 x1 x0
  have hO:Nd.gZ self [] now=⟨Rec.bytes ⟨true,0,1⟩,false,[],[],[]⟩:=by
   have h1:(Nd.gZ self [] now).ay=_:=k2
   have h2:(Nd.gZ self [] now).aJ=[]:=k3
   have h3:(Nd.gZ self [] now).cj=[]:=k4
   have h4:(Nd.gZ self [] now).dropped=[]:=k5
   have h5:(Nd.gZ self [] now).replace=false:=rfl
   rw[k1,eb]at h1
   generalize Nd.gZ self [] now=o at*
   obtain⟨a1,a2,a3,a4,a5⟩:=o
   simp only at h1 h2 h3 h4 h5
   rw[h1,h2,h3,h4,h5]
   simp[Nd.blank,b9,dM,zw]
  refine qm (.inl rfl) rfl (bh rfl) (aS rfl iI iI rfl) (bh rfl) ⟨(x6,(.slice none 0 0,.slice none 0 0,.slice none 0 0)),by rw[hO];rfl,?_⟩
  refine B2 n i0 self [] now x6 x5 vr (.slice none 0 0) 1 0 [] eb ?_
  rw[zw]
  simp only[aB,dM,List.map_nil]
  refine(aq.nil _ 28 3 Rec.cells none).trans ?_
  refine(aq.nil _ 53 7 bJ none).trans ?_
  have fin:∀A B C Z:af,aq (A*(B*(C*(aK x5 197 [u32 self,.slice none 0 0]*(rows 53 7 bJ (.slice none 0 0) []*Z))))) (A*(B*(C*(ct x5 self []*Z)))):=fun A B C Z=>aq.tail _ (aq.tail _ (aq.tail _ (aq.ct (v:= .slice none 0 0) (xs:=[]) dc.nil (by unfold eA cQ;simp only[aB];exact ah))))
  refine aq.trans ?_ (fin _ _ _ _)
  have ez:(Value.int .u32 1:Value)=u32 1:=rfl
  rw[ez]
  exact ah
 ·have yl:0<b.length:=List.length_pos_iff.2 JP
  have p1:=Fc w0 b hb
  have hl:=sD b
  have eb:Nd.bO self b now={Nd.blank self with seq:=bS (df (ic b)),ls:=iV self (cC (ic b)),cd:=now+2000}:=by unfold Nd.bO;rw[if_pos yl]
  have ok:=Nd.px self b now
  rw[eb]at ok k1
  generalize hj:ic b=l at*
  repeat' (first|(refine ab ?_;intro K hK)|(refine hK _ ?_;clear hK K)|refine ax ?_|(refine aF ?_ ?_<;>intro hc<;>(try simp only[cS]at hc)<;>(try exact aG))|refine az ?_|((refine' LQ ?zh rfl ?_);case zh=>intro F';exact bH rfl rfl iI (by first|assumption|omega|decide|rfl))|(refine ai (ph iI) rfl ?_;intro g0)|(refine ai (rj rfl) rfl ?_;intro gn)|(refine ai (aa iI rfl p1 ⟨aB.symm⟩) rfl ?_;intro vl))
  obtain⟨C0,VK⟩:∃C0:af,C0=aK gn 195 [u32 self,.int .u32 1,.pointer none,.slice none 0 0,u64 0,.slice none 0 0,.slice none 0 0,.slice none 0 0,.int .i64 0,u32 0,u32 0,.slice none 0 0,u64 0,aZ [],.bool false,.slice none 0 0,.slice none 0 0,.slice none 0 0,.slice none 0 0,u32 0]*(aK g0 35 [aZ [],.bool false,.slice none 0 0,.slice none 0 0,.slice none 0 0]*G):=⟨_,rfl⟩
  refine aV (fun k τ=>∃j:Nat,j+k=l.length∧τ=⟨[(14,.int .i64 (j:Int)),(13,u32 (df (l.take j))),(11,vl),(9,ptr gn 0),(7,ptr g0 0),(0,u32 self),(0+1+1,u64 now)],[],rows 28 3 Rec.cells vl l*C0⟩) ?_ ?_
  ·exact⟨l.length,_,⟨0,by omega,rfl⟩,cG,rfl,by rw[VK];simp only[aB];exact ah⟩
  rintro k τ ⟨j,ym,rfl⟩
  rcases Nat.lt_or_ge j l.length with bW|kQ
  ·have h1:(j:Int)<(l.length:Int):=by omega
   obtain⟨⟨zo,za,zs⟩,hz⟩:∃z,l[j]? =some z:=⟨_,List.getElem?_eq_getElem bW⟩
   have gK:df (l.take (j+1))=if zo then max (df (l.take j)) zs else df (l.take j):=by rw[List.take_add_one,hz,Option.toList_some,uF]
   generalize df (l.take j)=m at*
   cases zo with
   |false=>
    repeat' (first|(refine ab ?_;intro K hK)|(refine hK _ ?_;clear hK K)|refine ax ?_|(refine aF ?_ ?_<;>intro hc<;>(try simp only[cS]at hc)<;>(try exact aG))|refine az ?_|((refine' LQ ?zh rfl ?_);case zh=>intro F';exact bp rfl rfl iI (by first|assumption|omega|decide|rfl))|fail)
    exact⟨k - 1,_,by omega,⟨j+1,by omega,rfl⟩,⟨rfl,by rw[gK];rfl,rfl,rfl,rfl,rfl,rfl,trivial⟩,rfl,ah⟩
   |true=>
    have Ml:max m zs=if m≤zs then zs else m:=rfl
    rw[if_pos rfl,Ml]at gK
    by_cases hm:m<zs
    ·rw[if_pos (UInt32.le_of_lt hm)]at gK
     repeat' (first|(refine ab ?_;intro K hK)|(refine hK _ ?_;clear hK K)|refine ax ?_|(refine aF ?_ ?_<;>intro hc<;>(try simp only[cS]at hc)<;>(try exact aG))|refine az ?_|((refine' LQ ?zh rfl ?_);case zh=>intro F';exact bp rfl rfl iI (by first|assumption|omega|decide|rfl))|fail)
     exact⟨k - 1,_,by omega,⟨j+1,by omega,rfl⟩,⟨rfl,by rw[gK];rfl,rfl,rfl,rfl,rfl,rfl,trivial⟩,rfl,ah⟩
    ·have UI:df (l.take (j+1))=m:=by
      rw[gK]
      split
      ·rename_i h2;exact UInt32.le_antisymm (UInt32.not_lt.1 hm) h2
      ·rfl
     repeat' (first|(refine ab ?_;intro K hK)|(refine hK _ ?_;clear hK K)|refine ax ?_|(refine aF ?_ ?_<;>intro hc<;>(try simp only[cS]at hc)<;>(try exact aG))|refine az ?_|((refine' LQ ?zh rfl ?_);case zh=>intro F';first|exact bp rfl rfl iI (by first|assumption|omega|decide|rfl)|exact bH rfl rfl iI (by first|assumption|omega|decide|rfl))|fail)
     exact⟨k - 1,_,by omega,⟨j+1,by omega,rfl⟩,⟨rfl,by rw[UI];rfl,rfl,rfl,rfl,rfl,rfl,trivial⟩,rfl,ah⟩
  have h1:¬(j:Int)<(l.length:Int):=by omega
  rw[List.take_of_length_le kQ,VK]
  have p2:=kL w0 (df l)
  have p3:=PB w0 self l (by omega) vl (rows 28 3 Rec.cells vl l)
  obtain⟨q,hq⟩:∃q,q=bS (df l):=⟨_,rfl⟩
  obtain⟨ls,Nh⟩:∃ls,ls=iV self (cC l):=⟨_,rfl⟩
  rw[←hq,←Nh]at eb k1 ok
  rw[←hq]at p2
  rw[←Nh]at p3
  have Ul:=iO ls
  have Um:ls.length≤8:=ok.short
  repeat' (first|(refine ab ?_;intro K hK)|(refine hK _ ?_;clear hK K)|refine ax ?_|(refine aF ?_ ?_<;>intro hc<;>(try simp only[cS]at hc)<;>(try exact aG))|refine az ?_|((refine' LQ ?zh rfl ?_);case zh=>intro F';exact bH rfl rfl iI (by first|assumption|omega|decide|rfl))|((refine' LQ ?zh rfl ?_);case zh=>intro F';exact bE rfl rfl iI)|(refine bQ ?_;intro g)|(refine ai (aa iI rfl p2 ⟨aB.symm⟩) rfl ?_;intro u2)|(refine ai (aa iI rfl p3 iI) rfl ?_;intro tb)|(refine ai (au Rec.cells [⟨true,0,q⟩] iI iI iI rfl rfl rfl rfl rfl iI rfl rfl rfl) rfl ?_;intro vr))
  refine mP (g:=tb) (self:=self) (ls:=ls) iI fun v xs hR=> ?_
  have Ly:=hR.list ok
  have Yo:(cE ls).length=xs.length:=by rw[←Ly,List.length_map]
  refine cV (aq.nil _ 28 3 Rec.cells none) ?_
  refine aV (fun k τ=>∃(i:Nat) (va vh:Value),i+k=xs.length∧τ=⟨[(15,.int .i64 (i:Int)),(9,ptr gn 0),(7,ptr g0 0)],[],aK gn 195 [u32 self,u32 q,ptr tb 0,va,u64 (now+2000),.slice none 0 0,.slice none 0 0,.slice none 0 0,.int .i64 0,u32 0,u32 0,.slice none 0 0,u64 0,aZ [],.bool false,.slice none 0 0,.slice none 0 0,.slice none 0 0,vh,u32 q]*(rows 28 3 Rec.cells va (⟨true,0,q⟩::dM ((cE ls).take i))*(rows 28 3 Rec.cells vh (dM ((cE ls).take i))*(aK tb 197 [u32 self,v]*(rows 53 7 bJ v xs*(cQ xs*(aK g0 35 [aZ [],.bool false,.slice none 0 0,.slice none 0 0,.slice none 0 0]*G))))))⟩) ?_ ?_
  ·exact⟨xs.length,_,⟨0,vr,.slice none 0 0,by omega,rfl⟩,cG,rfl,by simp only[List.take_zero,dM,List.map_nil,aB];exact ah⟩
  rintro k τ ⟨i,va,vh,qE,rfl⟩
  rcases Nat.lt_or_ge i xs.length with h|h
  ·have h1:(i:Int)<(xs.length:Int):=by omega
   obtain⟨p,hp⟩:∃z,xs[i]? =some z:=⟨_,List.getElem?_eq_getElem h⟩
   have hL:(cE ls)[i]? =some p.1:=by rw[←Ly,List.getElem?_map,hp];rfl
   have gK:(cE ls).take (i+1)=(cE ls).take i++[p.1]:=by rw[List.take_add_one,hL];rfl
   have Eo:(dM ((cE ls).take i)).length≤8:=by rw[qi];exact Nat.le_trans (List.length_take_le' _ _) (Nat.le_trans Ul Um)
   generalize (cE ls).take i=L at*
   repeat' (first|refine ae (id:=25) (.range 25) 24 [3,6,8,9,10,14,17,19,20,21] ?_|refine ae (id:=26) (.range 11) 7 [4,5] ?_|refine cL (id:=26) 9 16 (.range 11) 10 [4] ?_|refine ae (id:=27) (.range 11) 7 [4,5] ?_|refine cL (id:=27) 9 16 (.range 11) 10 [4] ?_|(refine ab ?_;intro K hK)|(refine hK _ ?_;clear hK K)|refine ax ?_|(refine aF ?_ ?_<;>intro hc<;>(try simp only[cS]at hc)<;>(try exact aG))|(refine aL iI rfl ?_;intro g)|refine az ?_|((first|refine' LQ ?zh rfl ?_|refine' bP rfl rfl rfl ?zh ?_|refine' bk rfl rfl ?zh ?_);case zh=>intro F';exact bp rfl rfl iI (by first|assumption|omega|decide|rfl))|(refine bQ ?_;intro g)|(refine aD (au Rec.cells [⟨false,p.1.dest,p.1.seq⟩] iI iI iI rfl rfl rfl rfl rfl iI rfl rfl rfl) rfl rfl rfl ?_;intro vx)|(refine aD (aR rfl rfl iI iI rfl iI iI cO (by first|omega|(simp[al]<;>omega)) rfl) rfl rfl rfl ?_;intro vy))
   --tg
   rename_i YT Zn
   exact⟨k - 1,_,by omega,⟨i+1,YT,vy,by omega,rfl⟩,cG,rfl,by rw[gK,kJ,←List.cons_append];unfold gB;exact ah⟩
  have h1:¬(i:Int)<(xs.length:Int):=by omega
  rw[List.take_of_length_le (by omega)]
  have S1:(({own:=true,addr:=0,seq:=q}:Rec)::dM (cE ls)).length≤10000:=by rw[List.length_cons,qi];omega
  have p4:=qq w0 (⟨true,0,q⟩::dM (cE ls)) S1 va (rows 28 3 Rec.cells va (⟨true,0,q⟩::dM (cE ls)))
  repeat' (first|(refine ab ?_;intro K hK)|(refine hK _ ?_;clear hK K)|refine ax ?_|(refine aF ?_ ?_<;>intro hc<;>(try simp only[cS]at hc)<;>(try exact aG))|refine az ?_|((refine' LQ ?zh rfl ?_);case zh=>intro F';exact bH rfl rfl iI (by first|assumption|omega|decide|rfl))|(refine bQ ?_;intro g)|(refine ai (aa iI rfl p4 iI) rfl ?_;intro u4))
  --Vx
  have hO:Nd.gZ self b now=⟨b9 (⟨true,0,q⟩::dM (cE ls)),true,[],[],[]⟩:=by
   have h1:(Nd.gZ self b now).ay=_:=k2
   have h2:(Nd.gZ self b now).aJ=[]:=k3
   have h3:(Nd.gZ self b now).cj=[]:=k4
   have h4:(Nd.gZ self b now).dropped=[]:=k5
   have h5:(Nd.gZ self b now).replace=true:=decide_eq_true yl
   rw[k1]at h1
   generalize Nd.gZ self b now=o at*
   obtain⟨a1,a2,a3,a4,a5⟩:=o
   simp only at h1 h2 h3 h4 h5
   rw[h1,h2,h3,h4,h5]
  refine qm (.inl rfl) rfl (bh rfl) (aS rfl iI iI rfl) (bh rfl) ⟨(gn,(.slice none 0 0,.slice none 0 0,.slice none 0 0)),by rw[hO];rfl,?_⟩
  refine B2 n i0 self b now gn tb va vh q (now+2000) ls eb ?_
  have fin:∀A B C Z:af,aq (A*(B*(C*(aK tb 197 [u32 self,v]*(rows 53 7 bJ v xs*(cQ xs*Z)))))) (A*(B*(C*(ct tb self ls*Z)))):=fun A B C Z=>aq.tail _ (aq.tail _ (aq.tail _ (aq.ct hR (by unfold eA;exact ah))))
  refine aq.trans ?_ (fin _ _ _ _)
  exact ah
end
section
open Go.RowKit
def Qf (gk gm gr n i0:Nat) (s:Nd) (J:cP) (now:UInt64):af:=aK gk 182 [ptr gm 0,ptr gr 0,aZ J,u64 now]*(eQ gm s*j9 ⟨n,none,i0⟩ gr s)
def Lz (gk n i0:Nat) (s:Nd) (now:UInt64):af:=hex fun p:Nat×Nat=>Qf gk p.1 p.2 n i0 s (b9 s.aI) now
theorem Aw {gk n i0:Nat} {s:Nd} {now:UInt64} {H F:af} (gm gr:Nat) (e:aq H (aK gk 182 [ptr gm 0,ptr gr 0,aZ (b9 s.aI),u64 now]*(eQ gm s*(j9 ⟨n,none,i0⟩ gr s*F)))):aq H (Lz gk n i0 s now*F):=
 aq.mX (p:=fun p:Nat×Nat=>Qf gk p.1 p.2 n i0 s (b9 s.aI) now) (gm,gr) (by unfold Qf;rw[ad,ad];exact e)
theorem Spec.Lz {P:Program} {w0:World} {f:FuncId} {args:List Value} {gk n i0:Nat} {s:Nd} {now:UInt64} {X:af} {α:Type} {res:α→Value} {post:α→af} (h:∀gm gr,Spec P w0 f args (aK gk 182 [ptr gm 0,ptr gr 0,aZ (b9 s.aI),u64 now]*(eQ gm s*(j9 ⟨n,none,i0⟩ gr s*X))) res post):Spec P w0 f args (Go.Proofs.YtapoehkdnglahabGreat.Lz gk n i0 s now*X) res post:=fun G w hs=>by
 have iu:Sat w0 w (hex (fun p:Nat×Nat=>Qf gk p.1 p.2 n i0 s (b9 s.aI) now)*(X*G)):=hs.cast (ad _ _ _)
 obtain⟨p,fP⟩:=iu.ex
 refine h p.1 p.2 G w (fP.cast ?_)
 unfold Qf
 simp only[ad]
theorem jq (H:af):aq H (ei (⟨[],false,[],[],[]⟩:dS) (.slice none 0 0,.slice none 0 0,.slice none 0 0)*H):=by
 unfold ei
 rw[ad,ad]
 refine(aq.nil _ 166 1 lr none).trans ?_
 refine(aq.nil _ 70 2 dA none).trans ?_
 exact(aq.nil _ 48 2 dA none)
attribute [local irreducible] WS LS cD eM cn cv Spec bA aK
variable (w0:World)
theorem EJ (now:UInt64) (v:Value):Spec Tryz.prog w0 11 [u32 0,v,u64 now] emp (fun _:Unit=> .tuple #[.pointer none,xQ,.int .i64 5]) (fun _=>emp):=by
 refine Spec.enter Tryz.func11 rfl Tryz.ntmps11 rfl fun G=> ?_
 simp only[aN]
 repeat' (first|(refine ab ?_;intro K hK)|(refine hK _ ?_;clear hK K)|refine ax ?_|(refine aF ?_ ?_<;>intro hc<;>(try simp only[cS]at hc)<;>(try exact aG))|refine az ?_|((refine' LQ ?zh rfl ?_);case zh=>intro F';exact bp rfl rfl iI (by first|assumption|omega|decide|rfl))|(refine bT ?_;intro g)|(refine bQ ?_;intro g))
 exact qm (.inl rfl) rfl (bh rfl) (aS rfl iI iI rfl) (bh rfl) ⟨(),rfl,ah⟩
theorem CV (gk:Nat) (p q:Value) (J:cP) (now:UInt64) (o:dS) (hl:J.length+o.ay.length≤9000000) (v:Value×Value×Value):Spec Tryz.prog w0 76 [ptr gk 0,fp o v] (aK gk 182 [p,q,aZ J,u64 now]) (fun _:Unit=> .tuple #[]) (fun _=>aK gk 182 [p,q,aZ ((if o.replace then []else J)++o.ay),u64 now]):=by
 refine Spec.enter Tryz.func76 rfl Tryz.ntmps76 rfl fun G=> ?_
 unfold fp
 simp only[aN]
 obtain⟨jo,re,fr,ca,dr⟩:=o
 simp only at hl ⊢
 cases re with
 |true=>
  repeat' (first|(refine ab ?_;intro K hK)|(refine hK _ ?_;clear hK K)|refine ax ?_|(refine aF ?_ ?_<;>intro hc<;>(try simp only[cS]at hc)<;>(try exact aG))|refine az ?_|(refine bT ?_;intro g)|(refine bQ ?_;intro g))
  exact aj (.inr rfl) rfl ⟨(),rfl,by simp only[if_true,List.nil_append];exact ah⟩
 |false=>
  repeat' (first|refine ae (id:=3) (.range 11) 10 [4,6] ?_|refine cL (id:=3) 0 3 (.range 11) 10 [4] ?_|(refine ab ?_;intro K hK)|(refine hK _ ?_;clear hK K)|refine ax ?_|(refine aF ?_ ?_<;>intro hc<;>(try simp only[cS]at hc)<;>(try exact aG))|refine az ?_|((first|refine' LQ ?zh rfl ?_|refine' bP rfl rfl rfl ?zh ?_|refine' bk rfl rfl ?zh ?_);case zh=>intro F';exact kP rfl rfl (by first|omega|(simp[al]<;>omega)))|(refine bT ?_;intro g)|(refine bQ ?_;intro g))
  exact aj (.inr rfl) rfl ⟨(),rfl,by simp only[Bool.false_eq_true,if_false];exact ah⟩
theorem zA (n i0:Nat) (self:UInt32) (h0:self≠0) (b:cP) (hb:b.length≤65536) (now:UInt64):Spec Tryz.prog w0 37 [u32 self,aZ b,u64 now] emp (fun gk:Nat=> .tuple #[ptr gk 0,.bool true]) (fun gk=>Lz gk n i0 (Nd.new self b now) now):=by
 refine Spec.enter Tryz.func37 rfl Tryz.ntmps37 rfl fun G=> ?_
 have p1:=fun v=>(HC w0 self h0 b (by omega) now v (rows 5 1 bU v b)).oo (fun y:Nat×SO×SO×SO=>(y.1,yo y.2)) (fun x=>(x.1,lZ x.2)) (fun x w F hx=>by rw[ad,ad,aM]at hx;show(x.1,yo (lZ x.2))=x;rw[eR hx])
 have p2:=(Ic w0 n i0 self h0 b (by omega) now).oo (fun y:Nat×SO×SO×SO=>(y.1,yo y.2)) (fun x=>(x.1,lZ x.2)) (fun x w F hx=>by rw[ad,aM]at hx;show(x.1,yo (lZ x.2))=x;rw[eR hx])
 have p3:=ua w0 (Nd.gZ self b now)
 have hj:(if(Nd.gZ self b now).replace then []else b)++(Nd.gZ self b now).ay=b9 (Nd.new self b now).aI:=by
  have h1:(Nd.gZ self b now).ay=b9 (Nd.new self b now).aI:=(Nd.sq self b now).2.1
  have h2:(Nd.gZ self b now).replace=decide (0<b.length):=rfl
  rw[h1,h2]
  by_cases JP:0<b.length
  ·rw[decide_eq_true JP];rfl
  ·obtain rfl:b=[]:=List.length_eq_zero_iff.1 (by omega)
   rfl
 have Ng:(Nd.gZ self b now).ay.length≤312:=by
  have h1:(Nd.gZ self b now).ay=b9 (Nd.new self b now).aI:=(Nd.sq self b now).2.1
  rw[h1];exact jj (Nd.xL self b now)
 generalize Nd.gZ self b now=o at*
 generalize Nd.new self b now=s at*
 have p4:=fun gk p q=>CV w0 gk p q b now o (by omega)
 rw[hj]at p4
 simp only[fp,yo]at p1 p2 p3 p4
 simp only[aN]
 repeat' (first|(refine ab ?_;intro K hK)|(refine hK _ ?_;clear hK K)|refine ax ?_|(refine aF ?_ ?_<;>intro hc<;>(try simp only[cS]at hc)<;>(try exact aG))|refine az ?_|((refine' LQ ?zh rfl ?_);case zh=>intro F';first|exact bp rfl rfl iI (by first|assumption|omega|decide|rfl)|exact du rfl rfl iI (by first|assumption|omega|decide|rfl)|exact kY rfl iI rfl iI iI iI)|(refine bT ?_;intro g)|(refine bQ ?_;intro g)|(refine ai (vB rfl iI iI iI (by omega)) rfl ?_;intro vb)|(refine ai (aa iI rfl (p1 _) iI) rfl ?_;intro x1)|(refine ai (aa iI rfl p2 ⟨aB.symm⟩) rfl ?_;intro x2)|(refine ai (aa iI rfl (p3 (cT x1.2.1,cT x1.2.2.1,cT x1.2.2.2) (cT x2.2.1,cT x2.2.2.1,cT x2.2.2.2)) iI) rfl ?_;intro u3))
 rename_i y1 y2 y3
 refine aV (fun kk τ=>∃(i:Nat) (bs:cP),i+kk=b.length∧bs.length=b.length∧τ=⟨[(17,.int .i64 (i:Int)),(8,vb),(9,ptr x1.1 0),(13,ptr x2.1 0),(11,.int .i64 0),(15,.int .i64 0),(12,.bool true),(16,.bool true),(14,ptr y3 0),(0,u32 self),(0+1,aZ b),(0+1+1,u64 now)],[],aK y3 35 [aZ o.ay,.bool o.replace,cT x2.2.1,cT x2.2.2.1,cT x2.2.2.2]*(j9 ⟨n,none,i0⟩ x2.1 s*(eQ x1.1 s*(rows 5 1 bU vb bs*G)))⟩) ?_ ?_
 ·exact⟨b.length,_,⟨0,b,by omega,rfl,rfl⟩,cG,rfl,by simp only[aB,bl];exact ah⟩
 rintro kk τ ⟨i,bs,qE,yl,rfl⟩
 rcases Nat.lt_or_ge i b.length with h|h
 ·have h1:(i:Int)<(bs.length:Int):=by omega
  have h2:i<bs.length:=by omega
  repeat' (first|(refine ab ?_;intro K hK)|(refine hK _ ?_;clear hK K)|refine ax ?_|(refine aF ?_ ?_<;>intro hc<;>(try simp only[cS]at hc)<;>(try exact aG))|refine az ?_|((refine' LQ ?zh rfl ?_);case zh=>intro F';exact bp rfl rfl iI (by first|assumption|omega|decide|rfl))|((refine' bL ?zh ?_);(case zh=>exact oF rfl rfl iI iI rfl iI (by first|assumption|omega|(simp[al]<;>omega)));intro g)|fail)
  exact⟨kk - 1,_,by omega,⟨i+1,bs.set i 1,by omega,by rw[List.length_set];exact yl,rfl⟩,cG,rfl,ah⟩
 have h1:¬(i:Int)<(bs.length:Int):=by omega
 repeat' (first|(refine ab ?_;intro K hK)|(refine hK _ ?_;clear hK K)|refine ax ?_|(refine aF ?_ ?_<;>intro hc<;>(try simp only[cS]at hc)<;>(try exact aG))|refine az ?_|((refine' LQ ?zh rfl ?_);case zh=>intro F';first|exact bp rfl rfl iI (by first|assumption|omega|decide|rfl)|exact bH rfl rfl iI (by first|assumption|omega|decide|rfl))|((refine' LQ ?zh rfl ?_);case zh=>intro F';exact bE rfl rfl iI)|(refine ai (rj rfl) rfl ?_;intro gk)|(refine ai (aa iI rfl (p4 gk (ptr x1.1 0) (ptr x2.1 0) (cT x2.2.1,cT x2.2.2.1,cT x2.2.2.2)) iI) rfl ?_;intro u4))
 exact de (.inl rfl) rfl rfl rfl ⟨gk,rfl,by exact Aw x1.1 x2.1 (ah)⟩
theorem EH (b:cP) (hb:b.length≤65536) (now:UInt64):Spec Tryz.prog w0 37 [u32 0,aZ b,u64 now] emp (fun _:Unit=> .tuple #[.pointer none,.bool true]) (fun _=>emp):=by
 refine Spec.enter Tryz.func37 rfl Tryz.ntmps37 rfl fun G=> ?_
 have p1:=fun v=>EJ w0 now v
 have p2:=E9 w0 b now
 have p3:=ua w0 dS.zero (.slice none 0 0,.slice none 0 0,.slice none 0 0) (.slice none 0 0,.slice none 0 0,.slice none 0 0)
 simp only[fp,xQ,dS.zero]at p1 p2 p3
 simp only[aN]
 repeat' (first|(refine ab ?_;intro K hK)|(refine hK _ ?_;clear hK K)|refine ax ?_|refine az ?_|((refine' LQ ?zh rfl ?_);case zh=>intro F';first|exact bp rfl rfl iI (by first|assumption|omega|decide|rfl)|exact kY rfl iI rfl iI iI iI)|(refine bT ?_;intro g)|(refine bQ ?_;intro g)|(refine ai (vB rfl iI iI iI (by omega)) rfl ?_;intro vb)|(refine ai (aa iI rfl (p1 _) ⟨aB.symm⟩) rfl ?_;intro x1)|(refine ai (aa iI rfl p2 ⟨aB.symm⟩) rfl ?_;intro x2))
 refine fJ (jq _) ?_
 refine fJ (jq _) ?_
 repeat' (first|(refine ab ?_;intro K hK)|(refine hK _ ?_;clear hK K)|refine ax ?_|(refine aF ?_ ?_<;>intro hc<;>(try simp only[cS]at hc)<;>(try exact aG))|refine az ?_|((refine' LQ ?zh rfl ?_);case zh=>intro F';first|exact bp rfl rfl iI (by first|assumption|omega|decide|rfl)|exact fC rfl rfl iI (by first|assumption|omega|decide|rfl))|((refine' LQ ?zh rfl ?_);case zh=>intro F';exact bE rfl rfl iI)|(refine ai (aa iI rfl p3 iI) rfl ?_;intro u3))
 exact de (.inl rfl) rfl rfl rfl ⟨(),rfl,ah⟩
end
section
structure jP where
 kind:Int
 addr:UInt32
 text:cP
 p:Pk
 lv:Value
 wait:UInt64
def jP.step (c:jP) (s:Nd) (t:UInt64):Nd:=
 if c.kind=1 then s.iX t c.addr c.text else
 if c.kind=2 then(if c.p.Fits then s.iX t c.addr c.p.out else s)else
 if c.kind=3 then s.l7 t c.addr else
 if c.kind=4 then(if s.gA c.addr c.text=0 then s.iG t c.addr c.text else s)else
 if c.kind=5 then s.iH t else
 if c.kind=6 then Nd.new s.self (b9 s.aI) t else s
structure Nd.pU (s:Nd) (k:Nat) (t:UInt64):Prop where
 rest:s.Rest k
 self:s.self≠0
 ne:s.aI≠[]
 now:s.now.toNat≤t.toNat
theorem Nd.vN {s t:Nd} {now:UInt64} {a b:Nat} (h:(s.begin now).Step t a b):t.done.now=now:=by
 rw[t.tD.2.2.2.2.2.2.2.2.2.1,h.now]
 exact(s.fM now).1
theorem Nd.pU.Lf {s u:Nd} {k j:Nat} {t t':UInt64} (h:s.pU k t) (hw:s.Jc u j) (hj:j≤k+1) (hn:u.now=t'):u.pU (k+1) t':=⟨hw.rest.mono hj,by rw[hw.self];exact h.self,hw.ne h.ne,by rw[hn];exact Nat.le_refl _⟩
theorem Nd.C4 {s:Nd} {k:Nat} (h:s.Rest k) (t:UInt64) (src:UInt32) (f:cP):(s.iX t src f).now=t:=Nd.vN (Nd.Step.mb (h.inv.begin t) t src f)
theorem Nd.Jn (s:Nd) (t:UInt64) (nb:UInt32):(s.l7 t nb).now=t:=Nd.vN (Nd.Step.brk (s.begin t) nb)
theorem Nd.Ij (s:Nd) (t:UInt64) (d:UInt32) (x:cP):(s.iG t d x).now=t:=Nd.vN (Nd.Step.ea (s.begin t) d x)
theorem Nd.Iq {s:Nd} {k:Nat} (h:s.Rest k) (hk:k≤8500) {t:UInt64} (ht:t.toNat≤4611686018427387904):(s.iH t).now=t:=by
 obtain⟨i,_,hT⟩:=Nd.sO (h.ready hk ht)
 exact Nd.vN hT.step
theorem uK {s:Nd} {d:UInt32} {x:cP} (h:s.gA d x=0):x.length≤16:=by
 unfold Nd.gA at h
 split at h
 ·cases h
 ·omega
theorem Nd.Ge (self:UInt32) (b:cP) (t:UInt64):(Nd.new self b t).now=0:=by
 rw[(Nd.xM self b t).now]
 unfold Nd.bO
 split<;>rfl
theorem Nd.pU.step {s:Nd} {k:Nat} {now:UInt64} (c:jP) (h:s.pU k now) (hk:k≤8500) {t:UInt64} (ht:t.toNat≤4611686018427387904) (hn:now.toNat≤t.toNat):(c.step s t).pU (k+1) t:=by
 have h0:s.pU (k+1) t:=⟨h.rest.mono (Nat.le_succ k),h.self,h.ne,Nat.le_trans h.now hn⟩
 unfold jP.step
 split
 ·exact h.Lf (h.rest.wa t c.addr c.text) (Nat.le_succ k) (Nd.C4 h.rest t _ _)
 split
 ·split
  ·exact h.Lf (h.rest.wa t c.addr c.p.out) (Nat.le_succ k) (Nd.C4 h.rest t _ _)
  ·exact h0
 split
 ·exact h.Lf (h.rest.GA t c.addr) (Nat.le_succ k) (Nd.Jn s t _)
 split
 ·split
  ·rename_i e
   exact h.Lf (h.rest.Dw ht c.addr c.text (uK e)) (Nat.le_refl _) (Nd.Ij s t _ _)
  ·exact h0
 split
 ·exact h.Lf (h.rest.Dx hk ht) (Nat.le_refl _) (Nd.Iq h.rest hk ht)
 split
 ·exact⟨(Nd.xL s.self (b9 s.aI) t).mono (Nat.zero_le _),by rw[Nd.CM];exact h.self,Nd.Kx _ _ _,by rw[Nd.Ge];exact Nat.zero_le _⟩
 ·exact h0
theorem Nd.pU.new {self:UInt32} (h:self≠0) (b:cP) (now:UInt64):(Nd.new self b now).pU 0 now:=⟨Nd.xL self b now,by rw[Nd.CM];exact h,Nd.Kx _ _ _,by rw[Nd.Ge];exact Nat.zero_le _⟩
theorem Gz (now w:UInt64) (h:now.toNat≤4000000000000000000):now.toNat≤(now+w % 65536).toNat∧(now+w % 65536).toNat≤now.toNat+65536:=by
 have h1:(w % 65536).toNat=w.toNat % 65536:=by simp
 have h2:w.toNat % 65536<65536:=Nat.mod_lt _ (by omega)
 have h3:(now+w % 65536).toNat=now.toNat+w.toNat % 65536:=by rw[UInt64.toNat_add,h1];omega
 omega
theorem Hu {J:cP} {u:Nd} {k:Nat} {o:dS} (h:qg J u o) (hr:u.Rest k):o.ay.length≤312:=by
 have h1:=jj hr
 unfold qg at h
 rw[←h,List.length_append]at h1
 omega
end
section
open Go.RowKit
theorem Ex {now:UInt64} {l:List (Rq×UInt64)} {i:Nat} {z:Rq×UInt64} (h:l[i]? =some z):ml now (l.take (i+1))=ml now (l.take i)++if now<z.2 then [z]else []:=by
 unfold ml
 rw[List.take_add_one,h,List.filter_append]
 by_cases hz:now<z.2
 ·rw[if_pos hz];simp[hz]
 ·rw[if_neg hz];simp[hz]
theorem Hv (now:UInt64) (l:List (Rq×UInt64)) (i:Nat):(ml now (l.take i)).length≤l.length:=by
 unfold ml
 refine Nat.le_trans (List.length_filter_le _ _) ?_
 rw[List.length_take];omega
section
variable {P:Program} {n:fT} {w0:World} {E:Env} {D:List Deferred} {H F R L:af} {ops:Array Oper} {Q:Exit→St→Prop} {post:List Nat} {f:Nat} {ao:Array Bool} {c:Bool}
theorem GC {d:Nat} {op:Op} {ty:TypeId} {pos:String} {after:Array Edge} (i:Nat) {α:Type} {v:α→Value} {vm:α→af} (hi:ops[i]? =some ⟨some d,op,ty,pos,after,none⟩) (iZ:cn P n w0 ⟨some d,op,ty,pos,after,none⟩ E (R*F) v (fun x=>R*vm x))
 (h:∀x,DT P n w0 ops Q D R L post f (ao.setIfInBounds i true) false ((d,v x)::E) (vm x)) (hd:Nat.blt d n.tmps=true:=by decide+kernel):DO P n w0 ops Q D R L post f ao false E F i:=by
 have Et:cn P n w0 ⟨some d,op,ty,pos,after,none⟩ E (hp false R L F) v (fun x=>hp false R L (vm x)):=by
  obtain⟨pre,A8,G',hT,hH,qZ⟩:=iZ
  refine⟨pre,A8,L*G',hT,?_,fun x=> ?_⟩
  ·simp only[hp,cond_false]
   have e:R*(L*F)=L*(R*F):=by ac_rfl
   rw[e,hH];ac_rfl
  ·simp only[hp,cond_false]
   have e:R*(L*vm x)=L*(R*vm x):=by ac_rfl
   have e2:R*vm x=A8 x*G':=qZ x
   rw[e,e2];ac_rfl
 exact z1 hi rfl Et rfl (by simpa [gC,Nat.blt_eq]using hd) rfl vm (fun _=>rfl) h
theorem ny {α:Type} {t e:TypeId} {size bytes:Nat} {g g':α→List Value} {v u:Value} {l ys:List α} {F1:af} {d:Option Tmp} {ty:TypeId} {pos:String} {after:Array Edge} {gu:Option (Nat×Bool)} {x y:Operand} (hx:E.ev x=some v) (hy:E.ev y=some u) (hl:dD F v α e size g l F1) (hX:eX w0 R u α size g' ys) (Hj:g'=g) (hT:lj P t e size bytes) (hf:cY g size) (h1:∀z,∀c∈g z,c.oneCell'=true) (hn:l.length+ys.length≤1000000) (uX:Nat.ble bytes 1000=true):
 cn P n w0 ⟨d,.call ⟨.builtin .append,#[x,y],#[t,t]⟩,ty,pos,after,gu⟩ E (R*F) (fun v':Value=>v') (fun v'=>R*(rows e size g v' (l++ys)*F1)):=by
 have yz:dD (R*F) v α e size g l (R*F1):=⟨by rw[hl.eq,aM]⟩
 exact(dH R hx hy yz hX ⟨rfl⟩ Hj hT hf h1 hn uX).ob fun v'=>⟨v',rfl,aq.of_eq (aM _ _ _)⟩
end
attribute [local irreducible] WS LS cD eM cn cv Spec bA aK di cq
variable (w0:World)
theorem o4 (gn:Nat) (s:Nd) (d:RD) (r:Rq) (hl:d.seen.length≤1000):Spec Tryz.prog w0 186 [ptr gn 0,u32 r.src,u32 r.id] (cR gn s d) (fun _:Value=> .tuple #[]) (fun vs=>cR gn s {d with vs:=vs,seen:=qR s.now d.seen r}):=by
 refine Spec.enter Tryz.func186 rfl Tryz.ntmps186 rfl fun G=> ?_
 unfold cR bc cc
 simp only[aN,ad]
 simp only[bN]
 repeat' (first|(refine ab ?_;intro K hK)|(refine hK _ ?_;clear hK K)|refine ax ?_|refine az ?_)
 refine cV (aq.nil _ 312 3 jM none) ?_
 refine aV (fun kk τ=>∃(i:Nat) (vl:Value),i+kk=d.seen.length∧τ=⟨[(7,.int .i64 (i:Int)),(6,vl),(2,u32 r.id),(1,u32 r.src),(0,ptr gn 0)],[],aK gn 195 (bN s d s.out)*(rows 312 3 jM vl (ml s.now (d.seen.take i))*(rows 28 3 Rec.cells d.vr s.aI*(rows 28 3 Rec.cells d.vh d.held*(ct d.tb s.self s.ls*(cy d s.out*(rows 312 3 jM d.vs d.seen*(rows 243 2 dA d.vw d.wait*(rows 210 6 uM d.vq d.search*(rows 24 1 eL d.vt d.aP*G)))))))))⟩) ?_ ?_
 ·exact⟨d.seen.length,_,⟨0,.slice none 0 0,by omega,rfl⟩,cG,rfl,by simp only[bN];exact ah⟩
 rintro kk τ ⟨i,vl,qE,rfl⟩
 simp only[bN]
 have tK:=Hv s.now d.seen i
 rcases Nat.lt_or_ge i d.seen.length with h|h
 ·have h1:(i:Int)<(d.seen.length:Int):=by omega
  obtain⟨z,hz⟩:∃z,d.seen[i]? =some z:=⟨_,List.getElem?_eq_getElem h⟩
  have SR:=Ex (now:=s.now) hz
  by_cases h2:s.now<z.2
  ·rw[if_pos h2]at SR
   repeat' (first|refine ag (id:=4) (.range 13) ?_|(refine ab ?_;intro K hK)|(refine hK _ ?_;clear hK K)|refine ax ?_|(refine aF ?_ ?_<;>intro hc<;>(try simp only[cS]at hc)<;>(try exact aG))|refine aX ?_|refine az ?_|(refine ai (au jM [z] iI iI iI rfl rfl rfl rfl rfl iI rfl rfl rfl) rfl ?_;intro vx)|(refine ai (aR rfl rfl iI iI rfl iI iI nr (by simp only[List.length_singleton];omega) rfl) rfl ?_;intro va))
   exact⟨kk - 1,_,by omega,⟨i+1,va,by omega,rfl⟩,cG,rfl,by simp only[bN,SR];exact ah⟩
  ·rw[if_neg h2,List.append_nil]at SR
   repeat' (first|refine ag (id:=4) (.range 13) ?_|(refine ab ?_;intro K hK)|(refine hK _ ?_;clear hK K)|refine ax ?_|(refine aF ?_ ?_<;>intro hc<;>(try simp only[cS]at hc)<;>(try exact aG))|refine aX ?_|refine az ?_)
   exact⟨kk - 1,_,by omega,⟨i+1,vl,by omega,rfl⟩,cG,rfl,by simp only[bN,SR];exact ah⟩
 have h1:¬(i:Int)<(d.seen.length:Int):=by omega
 have V3:ml s.now (d.seen.take i)=ml s.now d.seen:=by rw[List.take_of_length_le h]
 rw[V3]
 have XO:(ml s.now d.seen).length≤d.seen.length:=by rw[←V3];exact tK
 have Iy:(dV s.now d.seen r).length=(ml s.now d.seen).length+1:=by unfold dV;simp
 have SH:ml s.now d.seen++[(r,s.now+1280)]=dV s.now d.seen r:=rfl
 by_cases Om:(dV s.now d.seen r).length≤16
 ·have TH:¬(16:Int)<((dV s.now d.seen r).length:Int):=by omega
  have Rn:qR s.now d.seen r=dV s.now d.seen r:=by unfold qR;rw[if_pos Om]
  repeat' (first|(refine ab ?_;intro K hK)|(refine hK _ ?_;clear hK K)|refine ax ?_|(refine aF ?_ ?_<;>intro hc<;>(try simp only[cS]at hc)<;>(try exact aG))|refine aX ?_|refine az ?_|((refine' LQ ?zh rfl ?_);case zh=>intro F';exact bE rfl rfl iI)|(refine bQ ?_;intro g)|(refine ai (au jM [(r,s.now+1280)] iI iI iI rfl rfl rfl rfl rfl iI rfl rfl rfl) rfl ?_;intro vx)|(refine ai (cn.form (dV s.now d.seen r).length (by rw[SH]) (aR rfl rfl iI iI rfl iI iI nr (by simp only[List.length_singleton];omega) rfl)) rfl ?_;intro va))
  exact aj (.inr rfl) rfl ⟨.slice va.1 (dV s.now d.seen r).length va.2,rfl,by rw[Rn,SH];unfold cy;exact ah⟩
 ·have TH:(16:Int)<((dV s.now d.seen r).length:Int):=by omega
  have Rn:qR s.now d.seen r=(dV s.now d.seen r).take (jU (dV s.now d.seen r) (dV s.now d.seen r).length)++(dV s.now d.seen r).drop (jU (dV s.now d.seen r) (dV s.now d.seen r).length+1):=by unfold qR;rw[if_neg Om]
  repeat' (first|(refine ab ?_;intro K hK)|(refine hK _ ?_;clear hK K)|refine ax ?_|(refine aF ?_ ?_<;>intro hc<;>(try simp only[cS]at hc)<;>(try exact aG))|refine aX ?_|refine az ?_|((refine' LQ ?zh rfl ?_);case zh=>intro F';exact bE rfl rfl iI)|(refine ai (au jM [(r,s.now+1280)] iI iI iI rfl rfl rfl rfl rfl iI rfl rfl rfl) rfl ?_;intro vx)|(refine ai (cn.form (dV s.now d.seen r).length (by rw[SH]) (aR rfl rfl iI iI rfl iI iI nr (by simp only[List.length_singleton];omega) rfl)) rfl ?_;intro va))
  rw[SH]
  have Y4:(dV s.now d.seen r).length≤1001:=by omega
  generalize dV s.now d.seen r=L at*
  refine aV (fun kk τ=>∃(j:Nat),j+kk=L.length∧τ=⟨[(9,.int .i64 (j:Int)),(8,.int .i64 ((jU L j:Nat):Int)),(6,.slice va.1 L.length va.2),(0,ptr gn 0)],[],aK gn 195 (bN s d s.out)*(rows 312 3 jM (.slice va.1 L.length va.2) L*(rows 28 3 Rec.cells d.vr s.aI*(rows 28 3 Rec.cells d.vh d.held*(ct d.tb s.self s.ls*(cy d s.out*(rows 312 3 jM d.vs d.seen*(rows 243 2 dA d.vw d.wait*(rows 210 6 uM d.vq d.search*(rows 24 1 eL d.vt d.aP*G)))))))))⟩) ?_ ?_
  ·exact⟨L.length,_,⟨0,by omega,rfl⟩,cG,rfl,by simp only[bN];exact ah⟩
  rintro xx τ ⟨j,ym,rfl⟩
  simp only[bN]
  have zp:=tG L j (by omega) (by omega)
  have JV:=oP L j
  rcases Nat.lt_or_ge j L.length with hj|hj
  ·have IC:(j:Int)<(L.length:Int):=by omega
   obtain⟨z,hz⟩:∃z,L[j]? =some z:=⟨_,List.getElem?_eq_getElem hj⟩
   obtain⟨y,hy⟩:∃y,L[jU L j]? =some y:=⟨_,List.getElem?_eq_getElem zp⟩
   have Ys:mK L j=z.2:=by unfold mK;rw[List.getD_eq_getElem?_getD,hz];rfl
   have Yp:mK L (jU L j)=y.2:=by unfold mK;rw[List.getD_eq_getElem?_getD,hy];rfl
   rw[Ys,Yp]at JV
   by_cases bW:z.2<y.2
   ·rw[if_pos bW]at JV
    repeat' (first|refine ag (id:=12) (.range 11) ?_|(refine ab ?_;intro K hK)|(refine hK _ ?_;clear hK K)|refine ax ?_|(refine aF ?_ ?_<;>intro hc<;>(try simp only[cS]at hc)<;>(try exact aG))|refine aX ?_|refine az ?_)
    exact⟨xx - 1,_,by omega,⟨j+1,by omega,rfl⟩,⟨rfl,by rw[JV];rfl,rfl,rfl,trivial⟩,rfl,by simp only[bN];exact ah⟩
   ·rw[if_neg bW]at JV
    repeat' (first|refine ag (id:=12) (.range 11) ?_|(refine ab ?_;intro K hK)|(refine hK _ ?_;clear hK K)|refine ax ?_|(refine aF ?_ ?_<;>intro hc<;>(try simp only[cS]at hc)<;>(try exact aG))|refine aX ?_|refine az ?_)
    exact⟨xx - 1,_,by omega,⟨j+1,by omega,rfl⟩,⟨rfl,by rw[JV];rfl,rfl,rfl,trivial⟩,rfl,by simp only[bN];exact ah⟩
  ·obtain rfl:j=L.length:=by omega
   have IC:¬(L.length:Int)<(L.length:Int):=by omega
   generalize jU L L.length=f at*
   have j7:((f:Nat):Int)+1=((f+1:Nat):Int):=by omega
   repeat' (first|(refine ab ?_;intro K hK)|(refine hK _ ?_;clear hK K)|refine ax ?_|(refine aF ?_ ?_<;>intro hc<;>(try simp only[cS]at hc)<;>(try exact aG))|refine aX ?_|refine az ?_)
   refine nC (by assumption) (fun τ=>∃v9:Value,τ=⟨[(6,v9),(0,ptr gn 0)],[],aK gn 195 (bN s d s.out)*(rows 312 3 jM v9 (L.take f++L.drop (f+1))*(rows 28 3 Rec.cells d.vr s.aI*(rows 28 3 Rec.cells d.vh d.held*(ct d.tb s.self s.ls*(cy d s.out*(rows 243 2 dA d.vw d.wait*(rows 210 6 uM d.vq d.search*(rows 24 1 eL d.vt d.aP*G))))))))⟩) ?_ ?_
   ·simp only[bN]
    refine rA (rows 312 3 jM (.slice va.1 L.length va.2) L) (aK gn 195 (bN s d s.out)*(rows 28 3 Rec.cells d.vr s.aI*(rows 28 3 Rec.cells d.vh d.held*(ct d.tb s.self s.ls*(cy d s.out*(rows 312 3 jM d.vs d.seen*(rows 243 2 dA d.vw d.wait*(rows 210 6 uM d.vq d.search*(rows 24 1 eL d.vt d.aP*G))))))))) [] (by simp only[bN];ac_rfl) ?_
    refine ec 1 rfl (fun F'=>by exact bC rfl) ?_
    refine ec 2 rfl (fun F'=>by exact bC rfl) ?_
    refine ec 3 rfl (fun F'=>by first|exact dv rfl rfl iI iI iI iI (by first|assumption|omega)|exact cW rfl rfl iI iI iI iI (by first|assumption|omega)) ?_
    refine ec 5 rfl (fun F'=>by exact bC rfl) ?_
    refine ec 6 rfl (fun F'=>by exact bC rfl) ?_
    refine ec 7 rfl (fun F'=>by first|exact wj rfl rfl (by omega)|exact bE rfl rfl iI|exact kP rfl rfl (by first|omega|simp)) ?_
    refine ec 8 rfl (fun F'=>by first|exact dv rfl rfl iI iI iI iI (by first|assumption|omega)|exact cW rfl rfl iI iI iI iI (by first|assumption|omega)) ?_
    refine ed [0] ⟨?_,trivial⟩
    refine wb 0 rfl (fq jM iI iI) fun x0=> ?_
    refine ed [4] ⟨?_,trivial⟩
    refine GC 4 rfl (ny rfl rfl iI iI rfl iI iI nr (by first|omega|(simp;omega)) rfl) fun x4=> ?_
    refine ed [9] ⟨?_,trivial⟩
    refine GC 9 rfl (ny rfl rfl iI iI rfl iI iI nr (by first|omega|(simp;omega)) rfl) fun x9=> ?_
    refine ec 10 rfl (fun F'=>by exact kC rfl) ?_
    refine IJ (by decide+kernel) rfl ?_
    exact⟨_,⟨x9,rfl⟩,cG,rfl,by simp only[hp,cond_false,List.nil_append,bN];exact ah⟩
   ·rintro τ ⟨v9,rfl⟩
    simp only[bN]
    refine jb v9 iI fun A9 c9 Yk=> ?_
    subst Yk
    repeat' (first|refine ax ?_|refine az ?_|(refine bQ ?_;intro g))
    exact aj (.inr rfl) rfl ⟨.slice A9 (L.take f++L.drop (f+1)).length c9,rfl,by rw[Rn];unfold cy;exact ah⟩
end
section
open Go.RowKit
theorem Twin.send {W:TW} {s:Nd} {d:RD} (h:Twin W s d) (to:UInt32) (p:Pk) (v:Value):Twin W (s.send to p) {d with vf:=v}:=h.to (Nd.Alike.MC s _) rfl rfl rfl rfl rfl
theorem Twin.drop {W:TW} {s:Nd} {d:RD} (h:Twin W s d) (k:Int) (v:Value):Twin W (s.drop k) {d with vd:=v}:=h.to (Nd.Alike.MC s _) rfl rfl rfl rfl rfl
attribute [local irreducible] WS LS cD eM cn cv Spec bA aK di cq
variable (w0:World)
theorem o5 (gn:Nat) (s:Nd) (d:RD) (to:UInt32) (p:Pk) (hp:p.Ok) (hl:p.lost=[]) (hf:s.Fit 1):Spec Tryz.prog w0 131 [ptr gn 0,u32 to,p.val (.slice none 0 0)] (cR gn s d) (fun _:Value=> .tuple #[]) (fun vf=>cR gn (s.send to p) {d with vf:=vf}):=by
 have:=fS w0 gn s d to p hp (.slice none 0 0) rfl emp (hX:=by rw[hl];exact mw _ _ _) (by have:=hf.aJ;omega)
 simpa only[bl]using this
theorem sA (W:TW) (gn:Nat) (s:Nd) (d:RD) (tw:Twin W s d) (q p:Pk) (vq:Value) (hq:q.Ok) (hp:p.Ok) (hl:p.lost=[]) (Zi:vq.oneCell'=true) (ok:aW s.ls) (hf:s.Fit 1) (hk:p.bK=8∧p.kind=2) (OA:p.from_=q.from_):Spec Tryz.prog w0 190 [ptr gn 0,q.val vq,p.val (.slice none 0 0)] (cR gn s d) (fun _:Unit=> .tuple #[]) (fun _=>qe W gn (s.answer p)):=by
 refine Spec.enter Tryz.func190 rfl Tryz.ntmps190 rfl fun G=> ?_
 simp only[aN]
 have p1:=nU w0 d.tb s.self s.ls ok q.from_ s.now
 have p2:=cx w0 gn s d 3 (by have:=hf.dropped;omega)
 have p3:=fun to=>o5 w0 gn s d to p hp hl hf
 unfold cR at*
 unfold Nd.answer
 rw[OA]
 have SX:({p with bK:=8,kind:=2}:Pk)=p:=by obtain⟨a1,a2,a3,a4,a5,a6,a7,a8,a9,Sx,Sy,a12⟩:=p;obtain⟨rfl,rfl⟩:=hk;rfl
 simp only[bN,ad,Pk.val,Pk.cells]at p1 p2 p3 ⊢
 cases mF:bR s.ls q.from_ s.now with
 |none=>
  simp only[mF,eY,Option.isSome_none]at p1
  repeat' (first|refine aE (id:=1) 0 4 (.range 17) ?_|refine ae (id:=1) (.range 17) 10 [3,5,9] ?_|(refine ab ?_;intro K hK)|(refine hK _ ?_;clear hK K)|refine ax ?_|(refine aF ?_ ?_<;>intro hc<;>(try simp only[cS]at hc)<;>(try exact aG))|(refine aL iI rfl ?_;intro g)|refine az ?_|(refine bT ?_;intro g)|(refine bQ ?_;intro g)|(refine aD (aa iI rfl p1 iI) rfl rfl rfl ?_;intro b1)|(refine ai (aa iI rfl p2 iI) rfl ?_;intro vd))
  exact aj (.inl rfl) rfl ⟨(),rfl,aq.rn (tw.drop 3 vd) (by unfold cR;simp only[bN];exact ah)⟩
 |some x=>
  simp only[mF,eY,Option.isSome_some,bM]at p1
  have p4:=p3 x.next
  repeat' (first|refine aE (id:=1) 0 4 (.range 17) ?_|refine ae (id:=1) (.range 17) 10 [3,5,9] ?_|(refine ab ?_;intro K hK)|(refine hK _ ?_;clear hK K)|refine ax ?_|(refine aF ?_ ?_<;>intro hc<;>(try simp only[cS]at hc)<;>(try exact aG))|(refine aL iI rfl ?_;intro g)|refine az ?_|(refine bT ?_;intro g)|(refine bQ ?_;intro g)|(refine aD (aa iI rfl p1 iI) rfl rfl rfl ?_;intro b1)|(refine ai (aa iI rfl p4 iI) rfl ?_;intro vf))
  --tg
  refine aj (.inr rfl) rfl ⟨(),rfl,?_⟩
  have UA:({bK:=8,kind:=2,aH:=p.aH,unknown:=p.unknown,id:=p.id,dest:=p.dest,ak:=p.ak,from_:=q.from_,av:=p.av,bD:=p.bD,lost:=p.lost,ar:=p.ar}:Pk)=p:=by rw[←OA];exact SX
  show aq _ (qe W gn (s.send x.next ({bK:=8,kind:=2,aH:=p.aH,unknown:=p.unknown,id:=p.id,dest:=p.dest,ak:=p.ak,from_:=q.from_,av:=p.av,bD:=p.bD,lost:=p.lost,ar:=p.ar}:Pk))*G)
  rw[UA]
  exact aq.rn (tw.send x.next p vf) (by unfold cR;simp only[bN];exact ah)
end
section
open Go.RowKit
section
variable {P:Program} {n:fT} {w0:World} {E:Env} {D:List Deferred} {H F R L:af}
theorem uq {α:Type} {t e:TypeId} {size bytes:Nat} {g g':α→List Value} {v u:Value} {l ys:List α} {F1:af} {d:Option Tmp} {ty:TypeId} {pos:String} {after:Array Edge} {gu:Option (Nat×Bool)} {x y:Operand} (N:Nat) (hN:(l++ys).length=N) (hx:E.ev x=some v) (hy:E.ev y=some u) (hl:dD F v α e size g l F1) (hX:eX w0 R u α size g' ys) (Hj:g'=g) (hT:lj P t e size bytes) (hf:cY g size) (h1:∀z,∀c∈g z,c.oneCell'=true) (hn:l.length+ys.length≤1000000) (uX:Nat.ble bytes 1000=true):
 cn P n w0 ⟨d,.call ⟨.builtin .append,#[x,y],#[t,t]⟩,ty,pos,after,gu⟩ E (R*F) (fun s:Option Addr×Nat=> .slice s.1 N s.2) (fun s=>R*(rows e size g (.slice s.1 N s.2) (l++ys)*F1)):=by
 have yz:dD (R*F) v α e size g l (R*F1):=⟨by rw[hl.eq,aM]⟩
 exact(cn.form N hN (dH R hx hy yz hX ⟨rfl⟩ Hj hT hf h1 hn uX)).ob fun s=>⟨s,rfl,aq.of_eq (aM _ _ _)⟩
end
def nY (l:List Sk) (d:UInt32):Option Nat:=l.findIdx? fun x=>x.dest=d
def qc:Option Nat→Int
 |some i=>(i:Int)
 |none=> -1
attribute [local irreducible] WS LS cD eM cn cv Spec bA aK di cq
variable (w0:World)
theorem xV (gn:Nat) (s:Nd) (d:RD) (ok:aW s.ls) (hf:s.Fit 1) (dest:UInt32) (tx:cP) (ht:tx.length≤1000):Spec Tryz.prog w0 138 [ptr gn 0,u32 dest,aZ tx] (cR gn s d) (fun _:Value=> .bool (bR s.ls dest s.now).isSome) (fun v=>cR gn (s.hand dest tx) {d with vf:=v}):=by
 refine Spec.enter Tryz.func138 rfl Tryz.ntmps138 rfl fun G=> ?_
 have p1:=nU w0 d.tb s.self s.ls ok dest s.now
 have p2:=fun to=>o5 w0 gn {s with ff:=s.ff+1} d to ⟨8,9,0,false,s.ff+1,dest,0,s.self,0,0,[],tx⟩ ⟨by simp[cM],by simp[cM],by simp[cM],by simp,by simp only;omega⟩ rfl ⟨hf.aJ,hf.cj,hf.dropped,hf.aI,hf.ay⟩
 have p3:=Df w0 d.tb s.self s.ls ok dest (s.now+3000)
 unfold cR at*
 unfold Nd.hand Nd.ir
 simp only[aN,bN,ad,Pk.val,Pk.cells]at p1 p2 p3 ⊢
 cases hx:bR s.ls dest s.now with
 |none=>
  simp only[hx,eY,Option.isSome_none]at p1 ⊢
  repeat' (first|refine nA (id:=1) 0 (.range 16) ?_|refine ae (id:=1) (.range 16) 9 [3,8] ?_|refine cL (id:=1) 7 0 (.range 16) 14 [] ?_|(refine ab ?_;intro K hK)|(refine hK _ ?_;clear hK K)|refine ax ?_|(refine aF ?_ ?_<;>intro hc<;>(try simp only[cS]at hc)<;>(try exact aG))|(refine aL iI rfl ?_;intro g)|refine az ?_|(refine bQ ?_;intro g)|(refine aD (aa iI rfl p1 iI) rfl rfl rfl ?_;intro x1))
  exact aC (.inl rfl) rfl rfl ⟨d.vf,rfl,ah⟩
 |some x=>
  simp only[hx,eY,Option.isSome_some,bM]at p1 ⊢
  replace p2:=p2 x.next
  simp only[Nd.send,cy,bc,ad]at p2 ⊢
  repeat' (first|refine nA (id:=1) 0 (.range 16) ?_|refine ae (id:=1) (.range 16) 9 [3,8] ?_|refine cL (id:=1) 7 0 (.range 16) 14 [] ?_|refine ae (id:=5) (.range 15) 14 [2,6,11] ?_|refine ae (id:=6) (.range 11) 10 [3,8] ?_|(refine ab ?_;intro K hK)|(refine hK _ ?_;clear hK K)|refine ax ?_|(refine aF ?_ ?_<;>intro hc<;>(try simp only[cS]at hc)<;>(try exact aG))|(refine aL iI rfl ?_;intro g)|refine az ?_|((first|refine' LQ ?zh rfl ?_|refine' bk rfl rfl ?zh ?_);case zh=>intro F';exact bE rfl rfl iI)|(refine bQ ?_;intro g)|(refine aD (aa iI rfl p1 iI) rfl rfl rfl ?_;intro x1;clear p1)|(refine aD (aa iI rfl p2 iI) rfl rfl rfl ?_;intro x2;clear p2)|(refine aD (aa iI rfl p3 iI) rfl rfl rfl ?_;intro x3))
  exact aC (.inl rfl) rfl rfl ⟨x2,rfl,ah⟩
theorem kR (gn:Nat) (QE pV:List Value) (v:Value) (l:List Sk) (hl:l.length≤100000) (hc:QE.length=7) (dest:UInt32):Spec Tryz.prog w0 139 [ptr gn 0,u32 dest] (aK gn 195 (QE++v::pV)*rows 210 6 uM v l) (fun _:Unit=> .int .i64 (qc (nY l dest))) (fun _=>aK gn 195 (QE++v::pV)*rows 210 6 uM v l):=by
 refine Spec.enter Tryz.func139 rfl Tryz.ntmps139 rfl fun G=> ?_
 obtain⟨c0,c1,c2,c3,c4,c5,c6,rfl⟩:∃c0 c1 c2 c3 c4 c5 c6,QE=[c0,c1,c2,c3,c4,c5,c6]:=by
  match QE,hc with
  |[c0,c1,c2,c3,c4,c5,c6],_=>exact⟨c0,c1,c2,c3,c4,c5,c6,rfl⟩
 simp only[aN,List.cons_append,List.nil_append,ad]
 repeat' (first|(refine ab ?_;intro K hK)|(refine hK _ ?_;clear hK K)|refine ax ?_|refine az ?_)
 refine aV (fun kk τ=>∃(i:Nat),i+kk=l.length∧(∀x∈l.take i,x.dest≠dest)∧τ=⟨[(5,.int .i64 (i:Int)),(1,u32 dest),(0,ptr gn 0)],[],aK gn 195 ([c0,c1,c2,c3,c4,c5,c6,v]++pV)*(rows 210 6 uM v l*G)⟩) ?_ ?_
 ·exact⟨l.length,_,⟨0,by omega,by simp,rfl⟩,cG,rfl,by simp only[List.cons_append,List.nil_append];exact ah⟩
 rintro kk τ ⟨i,qE,zt,rfl⟩
 simp only[List.cons_append,List.nil_append]
 rcases Nat.lt_or_ge i l.length with h|h
 ·have h1:(i:Int)<(l.length:Int):=by omega
  obtain⟨z,hz⟩:∃z,l[i]? =some z:=⟨_,List.getElem?_eq_getElem h⟩
  by_cases hd:z.dest=dest
  ·have hf:nY l dest=some i:=by
    unfold nY
    rw[List.findIdx?_eq_some_iff_getElem]
    refine⟨h,?_,fun j hj=> ?_⟩
    ·have:=(List.getElem?_eq_some_iff.1 hz).2
     simp[this,hd]
    ·have:=zt l[j] (List.mem_take_iff_getElem.2 ⟨j,by omega,rfl⟩)
     simpa using this
   rw[hf]
   repeat' (first|(refine ab ?_;intro K hK)|(refine hK _ ?_;clear hK K)|refine ax ?_|(refine aF ?_ ?_<;>intro hc<;>(try simp only[cS]at hc)<;>(try exact aG))|refine aX ?_|refine az ?_)
   exact aC (.inl rfl) rfl rfl ⟨(),rfl,ah⟩
  ·repeat' (first|(refine ab ?_;intro K hK)|(refine hK _ ?_;clear hK K)|refine ax ?_|(refine aF ?_ ?_<;>intro hc<;>(try simp only[cS]at hc)<;>(try exact aG))|refine aX ?_|refine az ?_)
   exact⟨kk - 1,_,by omega,⟨i+1,by omega,fun x hx=>by
    rw[List.take_add_one,hz]at hx
    rcases List.mem_append.1 hx with hx|hx
    ·exact zt x hx
    ·simp at hx;subst hx;exact hd,rfl⟩,cG,rfl,by simp only[List.cons_append,List.nil_append];exact ah⟩
 ·have h1:¬(i:Int)<(l.length:Int):=by omega
  rw[List.take_of_length_le h]at zt
  have hf:nY l dest=none:=by
   unfold nY
   rw[List.findIdx?_eq_none_iff]
   intro x hx
   simpa using zt x hx
  repeat' (first|(refine ab ?_;intro K hK)|(refine hK _ ?_;clear hK K)|refine ax ?_|(refine aF ?_ ?_<;>intro hc<;>(try simp only[cS]at hc)<;>(try exact aG))|refine aX ?_|refine az ?_)
  exact aC (.inl rfl) rfl rfl ⟨(),by rw[hf];rfl,ah⟩
theorem uH (gn:Nat) (s:Nd) (d:RD) (o:dS) (l:List Sk) (hl:l.length≤100000) (i:Nat) (hi:i<l.length):Spec Tryz.prog w0 154 [ptr gn 0,.int .i64 (i:Int)] (aK gn 195 (bN s d o)*rows 210 6 uM d.vq l) (fun _:Value=> .tuple #[]) (fun vq=>aK gn 195 (bN s {d with vq:=vq} o)*rows 210 6 uM vq (l.take i++l.drop (i+1))):=by
 refine Spec.enter Tryz.func154 rfl Tryz.ntmps154 rfl fun G=> ?_
 simp only[aN,bN,ad]
 have zq:((i:Nat):Int)+1=((i+1:Nat):Int):=by omega
 refine rA (rows 210 6 uM d.vq l) (aK gn 195 [u32 s.self,u32 s.seq,ptr d.tb 0,d.vr,u64 s.cd,d.vs,d.vw,d.vq,.int .i64 s.last,u32 s.ids,u32 s.ff,d.vt,u64 s.now,aZ o.ay,.bool o.replace,d.vf,d.vc,d.vd,d.vh,u32 s.own]*G) [19] (by ac_rfl) ?_
 refine ec 0 rfl (fun F'=>by exact bC rfl) ?_
 refine ec 2 rfl (fun F'=>by exact bC rfl) ?_
 refine ec 3 rfl (fun F'=>by exact db rfl) ?_
 refine ec 4 rfl (fun F'=>by first|exact bq rfl iI rfl|exact eG rfl iI iI rfl (by first|assumption|omega)) ?_
 refine yQ 5 rfl (fun F'=>by first|exact cm rfl iI iI rfl|exact kZ rfl iI iI rfl|exact lg rfl iI iI iI (by assumption) rfl|exact ja rfl iI iI iI (by assumption)) ?_
 refine ec 6 rfl (fun F'=>by exact bC rfl) ?_
 refine ec 7 rfl (fun F'=>by first|exact dv rfl rfl iI iI iI iI (by first|assumption|omega)|exact cW rfl rfl iI iI iI iI (by first|assumption|omega)) ?_
 refine ec 9 rfl (fun F'=>by exact bC rfl) ?_
 refine ec 10 rfl (fun F'=>by exact db rfl) ?_
 refine ec 11 rfl (fun F'=>by first|exact bq rfl iI rfl|exact eG rfl iI iI rfl (by first|assumption|omega)) ?_
 refine yQ 12 rfl (fun F'=>by first|exact cm rfl iI iI rfl|exact kZ rfl iI iI rfl|exact lg rfl iI iI iI (by assumption) rfl|exact ja rfl iI iI iI (by assumption)) ?_
 refine ec 13 rfl (fun F'=>by exact bC rfl) ?_
 refine ec 14 rfl (fun F'=>by first|exact wj rfl rfl (by omega)|exact bE rfl rfl iI|exact kP rfl rfl (by first|omega|simp)) ?_
 refine ec 15 rfl (fun F'=>by first|exact dv rfl rfl iI iI iI iI (by first|assumption|omega)|exact cW rfl rfl iI iI iI iI (by first|assumption|omega)) ?_
 refine ed [1] ⟨?_,trivial⟩
 refine wb 1 rfl (fq uM iI iI) fun x1=> ?_
 refine ed [8] ⟨?_,trivial⟩
 refine GC 8 rfl (ny rfl rfl iI iI rfl iI iI vY (by first|omega|(simp;omega)) rfl) fun x8=> ?_
 refine ed [16] ⟨?_,trivial⟩
 refine GC 16 rfl (uq (l.take i++l.drop (i+1)).length (by simp) rfl rfl iI iI rfl iI iI vY (by first|omega|(simp;omega)) rfl) fun Tn=> ?_
 refine ec 17 rfl (fun F'=>by exact db rfl) ?_
 refine ec 18 rfl (fun F'=>by first|exact bq rfl iI rfl|exact eG rfl iI iI rfl (by first|assumption|omega)) ?_
 refine ed [19] ⟨?_,trivial⟩
 refine kx ?_;refine uo 19 rfl (kV rfl rfl iI rfl iI rfl) fun YV=> ?_
 refine oE ?_
 exact aj (.inr rfl) rfl ⟨.slice Tn.1 (l.take i++l.drop (i+1)).length Tn.2,rfl,by simp only[List.nil_append];exact ah⟩
end
end Go.Proofs.YtapoehkdnglahabGreat

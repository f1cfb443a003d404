/- A part of what Nodes needs. -/
import Derived.Test.YtapoehkdnglahabGreatNodesGt
set_option maxHeartbeats 32000000
set_option maxRecDepth 100000
set_option linter.unusedVariables false
set_option linter.unusedSimpArgs false
set_option linter.unusedSectionVars false
namespace Go.Proofs.YtapoehkdnglahabGreat
section
open Go.RowKit
theorem Spec.nV {P:Program} {w0:World} {f:FuncId} {args:List Value} {W:TW} {g:Nat} {s:Nd} {d:RD} {α:Type} {res:α→Value} {post:α→af} (tw:Twin W s d) (h:Spec P w0 f args (qe W g s) res post):Spec P w0 f args (cR g s d) res post:=
 h.ob (by have:=aq.rn (W:=W) (g:=g) (F:=emp) tw (aq.refl _);simpa only[bl]using this) fun x=>⟨x,rfl,aq.refl _⟩
attribute [local irreducible] WS LS cD eM cn cv Spec bA aK di cq
variable (w0:World)
theorem Dd (W:TW) (gn:Nat) (s:Nd) (src:UInt32) (p:Pk) (hp:p.Read) (v:Value) (ok:aW s.ls) (hW:W.n≤100000) (F7:s.bu.length≤100000) (ht:∀t∈s.texts p.dest,t.length≤100) (hf:s.Fit ((s.texts p.dest).length+1)):Spec Tryz.prog w0 133 [ptr gn 0,u32 src,p.val v] (qe W gn s*rows 180 2 bB v p.lost) (fun _:Unit=> .tuple #[]) (fun _=>qe W gn (s.rep src p)):=by
 have j7:s.Fit 1:=hf.le (by omega)
 refine Spec.enter Tryz.func133 rfl Tryz.ntmps133 rfl fun G=> ?_
 refine jl v iI fun A c hv=> ?_
 subst hv
 obtain⟨Mm,ma,OT,OU,OV⟩:=hp
 obtain⟨bK,kind,aH,unknown,id,dest,ak,from_,av,bD,lost,ar⟩:=p
 simp only[Pk.val,Pk.cells,aN]at*
 refine rz (W:=W) (g:=gn) (s:=s) iI fun d tw=> ?_
 unfold cR
 simp only[bN,ad]
 by_cases h1:dest=s.self
 ·have es:s.rep src ⟨bK,kind,aH,unknown,id,dest,ak,from_,av,bD,lost,ar⟩=s.drop 1:=by unfold Nd.rep;rw[if_pos h1]
  have p1:=cx w0 gn s d 1 (by have:=j7.dropped;omega)
  unfold cR at p1
  simp only[bN,ad]at p1
  repeat' (first|refine ag (id:=1) (.range 7) ?_|(refine ab ?_;intro K hK)|(refine hK _ ?_;clear hK K)|refine ax ?_|(refine aF ?_ ?_<;>intro hc<;>(try simp only[cS]at hc)<;>(try exact aG))|refine aX ?_|refine az ?_|(refine bT ?_;intro g)|(refine ai (aa iI rfl p1 iI) rfl ?_;intro x1))
  exact aj (.inl rfl) rfl ⟨(),rfl,by rw[es];exact aq.rn (tw.drop 1 x1) (by unfold cR;simp only[bN];exact ah)⟩
 have p3:=uJ w0 (aH+1) 255
 have p4:=NL w0 d.tb s.self s.ls ok dest ak (min (aH+1) 255) src (s.now+bD.toUInt64)
 have IA:=pT s.self s.ls (Ln.bj dest ak (min (aH+1) 255) src (s.now+bD.toUInt64))
 have Lm:=pz s.self s.ls (Ln.bj dest ak (min (aH+1) 255) src (s.now+bD.toUInt64))
 have vj:=ok.La s.self (Ln.bj dest ak (min (aH+1) 255) src (s.now+bD.toUInt64)) (by simp only[Ln.bj];omega)
 have es:s.rep src ⟨bK,kind,aH,unknown,id,dest,ak,from_,av,bD,lost,ar⟩=if(dI s.self s.ls (Ln.bj dest ak (min (aH+1) 255) src (s.now+bD.toUInt64))).1=4 then Nd.drop {s with ls:=(dI s.self s.ls (Ln.bj dest ak (min (aH+1) 255) src (s.now+bD.toUInt64))).2} 2 else if from_=s.self then(if(dI s.self s.ls (Ln.bj dest ak (min (aH+1) 255) src (s.now+bD.toUInt64))).1=3 then Nd.drop (if(bR (dI s.self s.ls (Ln.bj dest ak (min (aH+1) 255) src (s.now+bD.toUInt64))).2 dest s.now).isSome then Nd.flush {s with ls:=(dI s.self s.ls (Ln.bj dest ak (min (aH+1) 255) src (s.now+bD.toUInt64))).2} dest else {s with ls:=(dI s.self s.ls (Ln.bj dest ak (min (aH+1) 255) src (s.now+bD.toUInt64))).2}) 7 else(if(bR (dI s.self s.ls (Ln.bj dest ak (min (aH+1) 255) src (s.now+bD.toUInt64))).2 dest s.now).isSome then Nd.flush {s with ls:=(dI s.self s.ls (Ln.bj dest ak (min (aH+1) 255) src (s.now+bD.toUInt64))).2} dest else {s with ls:=(dI s.self s.ls (Ln.bj dest ak (min (aH+1) 255) src (s.now+bD.toUInt64))).2}))else match bR (dI s.self s.ls (Ln.bj dest ak (min (aH+1) 255) src (s.now+bD.toUInt64))).2 from_ s.now with
  |none=>if bK=1 then Nd.drop {s with ls:=(dI s.self s.ls (Ln.bj dest ak (min (aH+1) 255) src (s.now+bD.toUInt64))).2} 4 else Nd.drop {s with ls:=(dI s.self s.ls (Ln.bj dest ak (min (aH+1) 255) src (s.now+bD.toUInt64))).2} 3
  |some b=>if bK=1 then Nd.drop {s with ls:=(dI s.self s.ls (Ln.bj dest ak (min (aH+1) 255) src (s.now+bD.toUInt64))).2} 4 else {Nd.send {s with ls:=(dI s.self s.ls (Ln.bj dest ak (min (aH+1) 255) src (s.now+bD.toUInt64))).2} b.next ⟨bK - 1,kind,min (aH+1) 255,unknown,id,dest,ak,from_,av,bD,lost,ar⟩with ls:=iY (gF (gF (dI s.self s.ls (Ln.bj dest ak (min (aH+1) 255) src (s.now+bD.toUInt64))).2 dest b.next) from_ src) from_ (s.now+3000)}:=by
  unfold Nd.rep
  simp only
  rw[if_neg h1]
  rfl
 generalize hu:dI s.self s.ls (Ln.bj dest ak (min (aH+1) 255) src (s.now+bD.toUInt64))=u at p4 IA vj es Lm
 obtain⟨e,gj⟩:=u
 simp only at p4 IA vj es Lm
 clear hu
 have mF:Nd.Fit {s with ls:=gj} 1:=j7.ls gj
 have uO:Twin W {s with ls:=gj} d:=tw.lines Lm
 by_cases Hg:e=4
 ·subst Hg
  rw[if_pos rfl]at es
  have p5:=cx w0 gn {s with ls:=gj} d 2 (by have:=mF.dropped;omega)
  unfold cR at p5
  simp only[bN,ad]at p5
  repeat' (first|refine ag (id:=1) (.range 7) ?_|refine ae (id:=4) (.range 20) 18 [3,5,7,13,15,16] ?_|(refine ab ?_;intro K hK)|(refine hK _ ?_;clear hK K)|refine ax ?_|(refine aF ?_ ?_<;>intro hc<;>(try simp only[cS]at hc)<;>(try exact aG))|refine aX ?_|refine az ?_|((first|refine' LQ ?zh rfl ?_|refine' bP rfl rfl rfl ?zh ?_|refine' bk rfl rfl ?zh ?_);case zh=>intro F';exact eV rfl iI iI iI)|((first|refine' LQ ?zh rfl ?_|refine' bk rfl rfl ?zh ?_);case zh=>intro F';exact bE rfl rfl iI)|(refine bT ?_;intro g)|(refine ai (aa iI rfl p3 ⟨aB.symm⟩) rfl ?_;intro x3)|(refine aD (aa iI rfl p4 iI) rfl rfl rfl ?_;intro x4)|(refine ai (aa iI rfl p5 iI) rfl ?_;intro x1))
  exact aj (.inl rfl) rfl ⟨(),rfl,by rw[es];exact aq.rn (uO.drop 2 x1) (by unfold cR;simp only[bN,Nd.drop];exact ah)⟩
 rw[if_neg Hg]at es
 by_cases h2:from_=s.self
 ·rw[if_pos h2]at es
  have p6:=nU w0 d.tb s.self gj vj dest s.now
  cases hx:bR gj dest s.now with
  |none=>
   simp only[hx,eY,bM,Option.isSome_none]at p6
   simp only[hx,Option.isSome_none,Bool.false_eq_true,if_false]at es
   by_cases AJ:e=3
   ·subst AJ
    rw[if_pos rfl]at es
    have p5:=cx w0 gn {s with ls:=gj} d 7 (by have:=mF.dropped;omega)
    unfold cR at p5
    simp only[bN,ad]at p5
    repeat' (first|refine ag (id:=1) (.range 7) ?_|refine ae (id:=4) (.range 20) 18 [3,5,7,13,15,16] ?_|refine ag (id:=7) (.range 7) ?_|refine aE (id:=8) 0 5 (.range 17) ?_|refine ae (id:=8) (.range 17) 10 [3,5,9] ?_|(refine ab ?_;intro K hK)|(refine hK _ ?_;clear hK K)|refine ax ?_|(refine aF ?_ ?_<;>intro hc<;>(try simp only[cS]at hc)<;>(try exact aG))|(refine aL iI rfl ?_;intro g)|refine aX ?_|refine az ?_|((first|refine' LQ ?zh rfl ?_|refine' bP rfl rfl rfl ?zh ?_|refine' bk rfl rfl ?zh ?_);case zh=>intro F';exact eV rfl iI iI iI)|((first|refine' LQ ?zh rfl ?_|refine' bk rfl rfl ?zh ?_);case zh=>intro F';exact bE rfl rfl iI)|(refine bT ?_;intro g)|(refine bQ ?_;intro g)|(refine ai (aa iI rfl p3 ⟨aB.symm⟩) rfl ?_;intro x3)|(refine aD (aa iI rfl p4 iI) rfl rfl rfl ?_;intro x4)|(refine aD (aa iI rfl p6 iI) rfl rfl rfl ?_;intro x6)|(refine ai (aa iI rfl p5 iI) rfl ?_;intro x1))
    exact aj (.inl rfl) rfl ⟨(),rfl,by rw[es];exact aq.rn (uO.drop 7 x1) (by unfold cR;simp only[bN,Nd.drop];exact ah)⟩
   ·rw[if_neg AJ]at es
    repeat' (first|refine ag (id:=1) (.range 7) ?_|refine ae (id:=4) (.range 20) 18 [3,5,7,13,15,16] ?_|refine ag (id:=7) (.range 7) ?_|refine aE (id:=8) 0 5 (.range 17) ?_|refine ae (id:=8) (.range 17) 10 [3,5,9] ?_|(refine ab ?_;intro K hK)|(refine hK _ ?_;clear hK K)|refine ax ?_|(refine aF ?_ ?_<;>intro hc<;>(try simp only[cS]at hc)<;>(try exact aG))|(refine aL iI rfl ?_;intro g)|refine aX ?_|refine az ?_|((first|refine' LQ ?zh rfl ?_|refine' bP rfl rfl rfl ?zh ?_|refine' bk rfl rfl ?zh ?_);case zh=>intro F';exact eV rfl iI iI iI)|((first|refine' LQ ?zh rfl ?_|refine' bk rfl rfl ?zh ?_);case zh=>intro F';exact bE rfl rfl iI)|(refine bT ?_;intro g)|(refine bQ ?_;intro g)|(refine ai (aa iI rfl p3 ⟨aB.symm⟩) rfl ?_;intro x3)|(refine aD (aa iI rfl p4 iI) rfl rfl rfl ?_;intro x4)|(refine aD (aa iI rfl p6 iI) rfl rfl rfl ?_;intro x6))
    exact aj (.inl rfl) rfl ⟨(),rfl,by rw[es];exact aq.rn uO (by unfold cR;simp only[bN];exact ah)⟩
  |some x=>
   simp only[hx,eY,bM,Option.isSome_some]at p6
   simp only[hx,Option.isSome_some,if_true]at es
   have p7:=Spec.nV uO (uI w0 W gn {s with ls:=gj} dest vj hW F7 ht (hf.ls gj))
   have Oy:(Nd.flush {s with ls:=gj} dest).Fit 1:=Nd.Fit.flush (s:={s with ls:=gj}) dest (hf.ls gj)
   generalize Nd.flush {s with ls:=gj} dest=s2 at p7 Oy es
   by_cases AJ:e=3
   ·subst AJ
    rw[if_pos rfl]at es
    have p5:=fun d2=>cx w0 gn s2 d2 7 (by have:=Oy.dropped;omega)
    unfold cR at p5 p7
    simp only[bN,ad]at p5 p7
    repeat' (first|refine ag (id:=1) (.range 7) ?_|refine ae (id:=4) (.range 20) 18 [3,5,7,13,15,16] ?_|refine ag (id:=7) (.range 7) ?_|refine aE (id:=8) 0 5 (.range 17) ?_|refine ae (id:=8) (.range 17) 10 [3,5,9] ?_|(refine ab ?_;intro K hK)|(refine hK _ ?_;clear hK K)|refine ax ?_|(refine aF ?_ ?_<;>intro hc<;>(try simp only[cS]at hc)<;>(try exact aG))|(refine aL iI rfl ?_;intro g)|refine aX ?_|refine az ?_|((first|refine' LQ ?zh rfl ?_|refine' bP rfl rfl rfl ?zh ?_|refine' bk rfl rfl ?zh ?_);case zh=>intro F';exact eV rfl iI iI iI)|((first|refine' LQ ?zh rfl ?_|refine' bk rfl rfl ?zh ?_);case zh=>intro F';exact bE rfl rfl iI)|(refine bT ?_;intro g)|(refine bQ ?_;intro g)|(refine ai (aa iI rfl p3 ⟨aB.symm⟩) rfl ?_;intro x3)|(refine aD (aa iI rfl p4 iI) rfl rfl rfl ?_;intro x4)|(refine aD (aa iI rfl p6 iI) rfl rfl rfl ?_;intro x6)|(refine ai (aa iI rfl p7 iI) rfl ?_;intro x7;clear p7)|(refine ai (aa iI rfl p5 iI) rfl ?_;intro x1)|(refine kA (W:=W) (g:=gn) (s:=s2) iI fun d2 lD=> ?_;replace p5:=p5 d2;unfold cR;simp only[bN,ad]))
    exact aj (.inl rfl) rfl ⟨(),rfl,by rw[es];exact aq.rn (lD.drop 7 x1) (by unfold cR;simp only[bN,Nd.drop];exact ah)⟩
   ·rw[if_neg AJ]at es
    unfold cR at p7
    simp only[bN,ad]at p7
    repeat' (first|refine ag (id:=1) (.range 7) ?_|refine ae (id:=4) (.range 20) 18 [3,5,7,13,15,16] ?_|refine ag (id:=7) (.range 7) ?_|refine aE (id:=8) 0 5 (.range 17) ?_|refine ae (id:=8) (.range 17) 10 [3,5,9] ?_|(refine ab ?_;intro K hK)|(refine hK _ ?_;clear hK K)|refine ax ?_|(refine aF ?_ ?_<;>intro hc<;>(try simp only[cS]at hc)<;>(try exact aG))|(refine aL iI rfl ?_;intro g)|refine aX ?_|refine az ?_|((first|refine' LQ ?zh rfl ?_|refine' bP rfl rfl rfl ?zh ?_|refine' bk rfl rfl ?zh ?_);case zh=>intro F';exact eV rfl iI iI iI)|((first|refine' LQ ?zh rfl ?_|refine' bk rfl rfl ?zh ?_);case zh=>intro F';exact bE rfl rfl iI)|(refine bT ?_;intro g)|(refine bQ ?_;intro g)|(refine ai (aa iI rfl p3 ⟨aB.symm⟩) rfl ?_;intro x3)|(refine aD (aa iI rfl p4 iI) rfl rfl rfl ?_;intro x4)|(refine aD (aa iI rfl p6 iI) rfl rfl rfl ?_;intro x6)|(refine ai (aa iI rfl p7 iI) rfl ?_;intro x7))
    exact aj (.inl rfl) rfl ⟨(),rfl,by rw[es];exact ah⟩
 rw[if_neg h2]at es
 have p6:=nU w0 d.tb s.self gj vj from_ s.now
 by_cases zu:bK=1
 ·have Ax:s.rep src ⟨bK,kind,aH,unknown,id,dest,ak,from_,av,bD,lost,ar⟩=Nd.drop {s with ls:=gj} 4:=by rw[es];cases bR gj from_ s.now<;>simp only[if_pos zu]
  have p5:=cx w0 gn {s with ls:=gj} d 4 (by have:=mF.dropped;omega)
  unfold cR at p5
  simp only[bN,ad]at p5
  repeat' (first|refine ag (id:=1) (.range 7) ?_|refine ae (id:=4) (.range 20) 18 [3,5,7,13,15,16] ?_|refine ag (id:=7) (.range 7) ?_|(refine ab ?_;intro K hK)|(refine hK _ ?_;clear hK K)|refine ax ?_|(refine aF ?_ ?_<;>intro hc<;>(try simp only[cS]at hc)<;>(try exact aG))|refine aX ?_|refine az ?_|((first|refine' LQ ?zh rfl ?_|refine' bP rfl rfl rfl ?zh ?_|refine' bk rfl rfl ?zh ?_);case zh=>intro F';exact eV rfl iI iI iI)|((first|refine' LQ ?zh rfl ?_|refine' bk rfl rfl ?zh ?_);case zh=>intro F';exact bE rfl rfl iI)|(refine bT ?_;intro g)|(refine ai (aa iI rfl p3 ⟨aB.symm⟩) rfl ?_;intro x3)|(refine aD (aa iI rfl p4 iI) rfl rfl rfl ?_;intro x4)|(refine ai (aa iI rfl p5 iI) rfl ?_;intro x1))
  exact aj (.inl rfl) rfl ⟨(),rfl,by rw[Ax];exact aq.rn (uO.drop 4 x1) (by unfold cR;simp only[bN,Nd.drop];exact ah)⟩
 cases hx:bR gj from_ s.now with
 |none=>
  have p5:=cx w0 gn {s with ls:=gj} d 3 (by have:=mF.dropped;omega)
  unfold cR at p5
  simp only[bN,ad]at p5
  simp only[hx,eY,bM,Option.isSome_none]at p6
  simp only[hx,if_neg zu]at es
  repeat' (first|refine ag (id:=1) (.range 7) ?_|refine ae (id:=4) (.range 20) 18 [3,5,7,13,15,16] ?_|refine ag (id:=7) (.range 7) ?_|refine aE (id:=15) 0 5 (.range 17) ?_|refine ae (id:=15) (.range 17) 10 [3,5,9] ?_|(refine ab ?_;intro K hK)|(refine hK _ ?_;clear hK K)|refine ax ?_|(refine aF ?_ ?_<;>intro hc<;>(try simp only[cS]at hc)<;>(try exact aG))|(refine aL iI rfl ?_;intro g)|refine aX ?_|refine az ?_|((first|refine' LQ ?zh rfl ?_|refine' bP rfl rfl rfl ?zh ?_|refine' bk rfl rfl ?zh ?_);case zh=>intro F';exact eV rfl iI iI iI)|((first|refine' LQ ?zh rfl ?_|refine' bk rfl rfl ?zh ?_);case zh=>intro F';exact bE rfl rfl iI)|(refine bT ?_;intro g)|(refine bQ ?_;intro g)|(refine ai (aa iI rfl p3 ⟨aB.symm⟩) rfl ?_;intro x3)|(refine aD (aa iI rfl p4 iI) rfl rfl rfl ?_;intro x4)|(refine aD (aa iI rfl p6 iI) rfl rfl rfl ?_;intro x6)|(refine ai (aa iI rfl p5 iI) rfl ?_;intro x1))
  exact aj (.inl rfl) rfl ⟨(),rfl,by rw[es];exact aq.rn (uO.drop 3 x1) (by unfold cR;simp only[bN,Nd.drop];exact ah)⟩
 |some b=>
  simp only[hx,eY,bM,Option.isSome_some]at p6
  simp only[hx,if_neg zu]at es
  have p7:=fS w0 gn {s with ls:=gj} d b.next ⟨bK - 1,kind,min (aH+1) 255,unknown,id,dest,ak,from_,av,bD,lost,ar⟩ ⟨by simp only[cM]at*;omega,by simpa only[cM]using ma,by simp only[cM]at*;omega,by simp only;omega,by simp only;omega⟩ (.slice A lost.length c) rfl (rows 180 2 bB (.slice A lost.length c) lost) (hX:=fy _ _ _ _ _) (by have:=mF.aJ;omega)
  have Qj:=vj.FK dest b.next
  have YH:=Qj.FK from_ src
  have p8:=sC w0 d.tb s.self gj vj dest b.next
  have p9:=sC w0 d.tb s.self (gF gj dest b.next) Qj from_ src
  have Vc:=Df w0 d.tb s.self (gF (gF gj dest b.next) from_ src) YH from_ (s.now+3000)
  have yp:=fun vf=>(uO.send b.next ⟨bK - 1,kind,min (aH+1) 255,unknown,id,dest,ak,from_,av,bD,lost,ar⟩ vf).lines (ls:=iY (gF (gF gj dest b.next) from_ src) from_ (s.now+3000)) (fun x hx=>by rw[gY,jE,jE];exact hx)
  unfold cR at p7
  simp only[bN,ad,Pk.val,Pk.cells,Nd.send]at p7
  repeat' (first|refine ag (id:=1) (.range 7) ?_|refine ae (id:=4) (.range 20) 18 [3,5,7,13,15,16] ?_|refine ag (id:=7) (.range 7) ?_|refine aE (id:=15) 0 5 (.range 17) ?_|refine ae (id:=15) (.range 17) 10 [3,5,9] ?_|refine ae (id:=21) (.range 9) 8 [3,5,7] ?_|refine ae (id:=22) (.range 8) 7 [3,5] ?_|refine ae (id:=23) (.range 12) 11 [3,5,9] ?_|(refine ab ?_;intro K hK)|(refine hK _ ?_;clear hK K)|refine ax ?_|(refine aF ?_ ?_<;>intro hc<;>(try simp only[cS]at hc)<;>(try exact aG))|(refine aL iI rfl ?_;intro g)|refine aX ?_|refine az ?_|((first|refine' LQ ?zh rfl ?_|refine' bP rfl rfl rfl ?zh ?_|refine' bk rfl rfl ?zh ?_);case zh=>intro F';exact eV rfl iI iI iI)|((first|refine' LQ ?zh rfl ?_|refine' bk rfl rfl ?zh ?_);case zh=>intro F';exact bE rfl rfl iI)|(refine bT ?_;intro g)|(refine bQ ?_;intro g)|(refine ai (aa iI rfl p3 ⟨aB.symm⟩) rfl ?_;intro x3)|(refine aD (aa iI rfl p4 iI) rfl rfl rfl ?_;intro x4)|(refine aD (aa iI rfl p6 iI) rfl rfl rfl ?_;intro x6)|(refine ai (aa iI rfl p7 iI) rfl ?_;intro vf)|(refine aD (aa iI rfl p8 iI) rfl rfl rfl ?_;intro x8)|(refine aD (aa iI rfl p9 iI) rfl rfl rfl ?_;intro x9)|(refine aD (aa iI rfl Vc iI) rfl rfl rfl ?_;intro YU))
  exact aj (.inr rfl) rfl ⟨(),rfl,by rw[es];exact aq.rn (yp vf) (by unfold cR;simp only[bN,Nd.send];exact ah)⟩
end
section
open Go.RowKit
section
variable {P:Program} {n:fT} {w0:World} {E:Env} {D:List Deferred} {H F1 F2 F3:af} {c:Code} {Q:Exit→St→Prop} {g:Nat} {self:UInt32} {ls:List Ln} {v:Value} {ys xs:List da}
theorem lJ (hr:dc ls xs) (hb:∀Z,aq (cQ ys*Z) (cQ xs*Z)) (h1:Own H (aK g 197 [u32 self,v]) F1) (h2:Own F1 (rows 53 7 bJ v xs) F2) (h3:Own F2 (cQ ys) F3) (h:WS P n w0 c Q ⟨E,D,ct g self ls*F3⟩):WS P n w0 c Q ⟨E,D,H⟩:=by
 refine cV (H':=ct g self ls*F3) ?_ h
 rw[h1.eq,h2.eq,h3.eq]
 refine aq.trans ?_ (aq.ct (v:=v) hr (aq.refl _))
 unfold eA
 rw[ad]
 exact aq.tail _ (aq.tail _ (hb F3))
end
attribute [local irreducible] WS LS cD eM cn cv Spec bA aK di cq
variable (w0:World)
theorem E0 (W:TW) (gn:Nat) (s:Nd) (src:UInt32) (p:Pk) (hp:p.Read) (v:Value) (ok:aW s.ls) (hf:s.Fit 2):Spec Tryz.prog w0 135 [ptr gn 0,u32 src,p.val v] (qe W gn s*rows 180 2 bB v p.lost) (fun _:Unit=> .tuple #[]) (fun _=>qe W gn (s.ov src p)):=by
 have j7:s.Fit 1:=hf.le (by omega)
 refine Spec.enter Tryz.func135 rfl Tryz.ntmps135 rfl fun G=> ?_
 refine jl v iI fun A c hv=> ?_
 subst hv
 obtain⟨Mm,ma,OT,OU,OV⟩:=hp
 obtain⟨bK,kind,aH,unknown,id,dest,ak,from_,av,bD,lost,ar⟩:=p
 simp only[Pk.val,Pk.cells,aN]at*
 refine rz (W:=W) (g:=gn) (s:=s) iI fun d tw=> ?_
 unfold cR
 simp only[bN,ad]
 by_cases h1:dest=s.self
 ·have es:s.ov src ⟨bK,kind,aH,unknown,id,dest,ak,from_,av,bD,lost,ar⟩=s.cj (from_,ar):=by unfold Nd.ov;rw[if_pos h1]
  have Dy:=hf.cj
  unfold cy
  simp only[ad]
  have uO:=fun vc=>tw.to (t:=s.cj (from_,ar)) (e:={d with vc:=vc}) (Nd.Alike.MC s _) rfl rfl rfl rfl rfl
  repeat' (first|refine ag (id:=1) (.range 7) ?_|refine ae (id:=2) (.range 17) 12 [5,7,9] ?_|refine cL (id:=2) 0 5 (.range 17) 16 [5] ?_|(refine ab ?_;intro K hK)|(refine hK _ ?_;clear hK K)|refine ax ?_|(refine aF ?_ ?_<;>intro hc<;>(try simp only[cS]at hc)<;>(try exact aG))|refine aX ?_|refine az ?_|(refine bT ?_;intro g)|(refine bQ ?_;intro g)|(refine aD (au dA [(from_,ar)] iI iI iI rfl rfl rfl rfl rfl iI rfl rfl rfl) rfl rfl rfl ?_;intro vx)|(refine aD (aR rfl rfl iI iI rfl iI iI gU (by simp only[List.length_singleton];omega) rfl) rfl rfl rfl ?_;intro va))
  exact aj (.inl rfl) rfl ⟨(),rfl,by rw[es];exact aq.rn (uO va) (by unfold cR;simp only[bN,cy,bc,Nd.cj];exact ah)⟩
 by_cases zu:bK=1
 ·have es:s.ov src ⟨bK,kind,aH,unknown,id,dest,ak,from_,av,bD,lost,ar⟩=s.drop 4:=by unfold Nd.ov;rw[if_neg h1,if_pos zu]
  have p1:=cx w0 gn s d 4 (by have:=j7.dropped;omega)
  unfold cR at p1
  simp only[bN,ad]at p1
  repeat' (first|refine ag (id:=1) (.range 7) ?_|(refine ab ?_;intro K hK)|(refine hK _ ?_;clear hK K)|refine ax ?_|(refine aF ?_ ?_<;>intro hc<;>(try simp only[cS]at hc)<;>(try exact aG))|refine aX ?_|refine az ?_|(refine bT ?_;intro g)|(refine ai (aa iI rfl p1 iI) rfl ?_;intro x1))
  exact aj (.inl rfl) rfl ⟨(),rfl,by rw[es];exact aq.rn (tw.drop 4 x1) (by unfold cR;simp only[bN];exact ah)⟩
 have p6:=nU w0 d.tb s.self s.ls ok dest s.now
 cases hx:bR s.ls dest s.now with
 |none=>
  simp only[hx,eY,bM,Option.isSome_none]at p6
  have es:s.ov src ⟨bK,kind,aH,unknown,id,dest,ak,from_,av,bD,lost,ar⟩=Nd.send {s.drop 3 with ls:=ia s.ls dest} src (Pk.gI [(dest,eJ (ia s.ls dest) dest)]):=by unfold Nd.ov;rw[if_neg h1,if_neg zu];simp only[hx];rfl
  have p1:=cx w0 gn s d 3 (by have:=j7.dropped;omega)
  have p3:=fun vd A c q=>fS w0 gn {s.drop 3 with ls:=ia s.ls dest} {d with vd:=vd} src (Pk.gI [(dest,q)]) (Pk.pG _ (by simp)) (.slice A 1 c) rfl (rows 180 2 bB (.slice A 1 c) [(dest,q)]) (hX:=fy _ _ _ _ _) (by show s.out.aJ.length≤900000;have:=j7.aJ;omega)
  unfold cR at p1
  simp only[bN,ad,Nd.drop,cy]at p1
  unfold cy
  simp only[ad]
  repeat' (first|refine ag (id:=1) (.range 7) ?_|refine aE (id:=5) 0 5 (.range 17) ?_|refine ae (id:=5) (.range 17) 10 [3,5,9] ?_|(refine ab ?_;intro K hK)|(refine hK _ ?_;clear hK K)|refine ax ?_|(refine aF ?_ ?_<;>intro hc<;>(try simp only[cS]at hc)<;>(try exact aG))|(refine aL iI rfl ?_;intro g)|refine aX ?_|refine az ?_|(refine bT ?_;intro g)|(refine bQ ?_;intro g)|(refine aD (aa iI rfl p6 iI) rfl rfl rfl ?_;intro x6)|(refine ai (aa iI rfl p1 iI) rfl ?_;intro vd))
  refine mP (g:=d.tb) (self:=s.self) (ls:=s.ls) iI fun v xs hR=> ?_
  have ta:=ok.short
  have Hs:=hR.length
  have p2:=iF w0 d.tb s.self v xs (by omega) dest
  unfold eA at p2
  simp only[ad]
  have Oo:=hR.bump dest
  have yp:=fun vd vf=>((tw.drop 3 vd).lines (ls:=ia s.ls dest) (fun x hx=>by rw[wU];exact hx)).send src (Pk.gI [(dest,eJ (ia s.ls dest) dest)]) vf
  cases hg:fj xs dest with
  |none=>
   rw[hg]at p2
   simp only[Option.isSome_none]at p2
   have JQ:wQ xs dest=xs:=by unfold wQ;rw[hg]
   rw[JQ]at Oo
   have Ut:eJ (ia s.ls dest) dest=0:=by unfold eJ;rw[Oo.not hg]
   rw[Ut]at yp es
   replace p3:=fun vd A c=>p3 vd A c 0
   unfold cR at p3
   simp only[bN,ad,Pk.val,Pk.cells,Nd.send,Nd.drop,Pk.gI,cy]at p3
   replace p3:=p3 vd
   repeat' (first|(show WS _ _ _ (.region 17 _ _) _ _;refine lJ (g:=d.tb) (self:=s.self) (v:=v) (ys:=xs) (xs:=xs) Oo (fun Z=>aq.refl _) iI iI iI ?_)|refine ae (id:=12) (.range 12) 6 [3,5] ?_|(refine ab ?_;intro K hK)|(refine hK _ ?_;clear hK K)|refine ax ?_|(refine aF ?_ ?_<;>intro hc<;>(try simp only[cS]at hc)<;>(try exact aG))|refine az ?_|(refine aD (aa iI rfl p2 iI) rfl rfl rfl ?_;intro x2)|(refine ai (au bB [(dest,0)] iI iI iI rfl rfl rfl rfl rfl iI rfl rfl rfl) rfl ?_;intro vl;refine pj vl iI fun A2 c2 mj=> ?_;subst mj)|(refine ai (aa iI rfl (p3 _ _) iI) rfl ?_;intro vf))
   exact aj (.inr rfl) rfl ⟨(),rfl,by rw[es];exact aq.rn (yp vd vf) (by unfold cR;simp only[bN,cy,bc,Nd.send,Nd.drop,Pk.gI];exact ah)⟩
  |some p=>
   rw[hg]at p2
   simp only[Option.isSome_some]at p2
   obtain⟨hp,hd⟩:=fl hg
   have hi:kb dest xs<xs.length:=(List.getElem?_eq_some_iff.1 hp).1
   have JQ:wQ xs dest=xs.set (kb dest xs) ({p.1 with seq:=bS p.1.seq},p.2):=by unfold wQ;rw[hg]
   have XE:fj (wQ xs dest) dest=some ({p.1 with seq:=bS p.1.seq},p.2):=(mV Oo.fH).2 ⟨by rw[JQ];exact List.mem_of_getElem? (yb hi),hd⟩
   have Ut:eJ (ia s.ls dest) dest=bS p.1.seq:=by unfold eJ;rw[Oo.Na XE]
   rw[JQ]at Oo
   rw[Ut]at yp es
   replace p3:=fun vd A c=>p3 vd A c (bS p.1.seq)
   unfold cR at p3
   simp only[bN,ad,Pk.val,Pk.cells,Nd.send,Nd.drop,Pk.gI,cy]at p3
   replace p3:=p3 vd
   have p4:=kL w0 p.1.seq
   have SJ:=fun Z=>aq.kG (xs:=xs) (z:=(({p.1 with seq:=bS p.1.seq}:Ln),p.2)) hp (.inl (F9 rfl rfl)) Z
   have l5:(xs.set (kb dest xs) (({p.1 with seq:=bS p.1.seq}:Ln),p.2))[kb dest xs]? =some (({p.1 with seq:=bS p.1.seq}:Ln),p.2):=yb hi
   have uZ:kb dest xs<(xs.set (kb dest xs) (({p.1 with seq:=bS p.1.seq}:Ln),p.2)).length:=by rw[List.length_set];exact hi
   generalize kb dest xs=i at*
   generalize hq:bS p.1.seq=q at*
   repeat' (first|(show WS _ _ _ (.region 17 _ _) _ _;refine lJ (g:=d.tb) (self:=s.self) (v:=v) (ys:=xs) (xs:=xs.set i (({p.1 with seq:=q}:Ln),p.2)) Oo SJ iI iI iI ?_)|refine ae (id:=12) (.range 12) 6 [3,5] ?_|refine ae (id:=15) (.range 23) 22 [3,6,11,14,16,17,18,20,21] ?_|(refine ab ?_;intro K hK)|(refine hK _ ?_;clear hK K)|refine ax ?_|(refine aF ?_ ?_<;>intro hc<;>(try simp only[cS]at hc)<;>(try exact aG))|refine az ?_|(refine aD (aa iI rfl p2 iI) rfl rfl rfl ?_;intro x2)|(refine aD (aa iI rfl p4 ⟨aB.symm⟩) rfl rfl rfl ?_;intro x4)|(refine' dP ?zh rfl rfl ?_;(case zh=>exact dB (z:=p) (({p.1 with seq:=q}:Ln),p.2) rfl rfl iI iI iI rfl hp rfl);intro g5)|(refine ai (au bB [(dest,q)] iI iI iI rfl rfl rfl rfl rfl iI rfl rfl rfl) rfl ?_;intro vl;refine pj vl iI fun A2 c2 mj=> ?_;subst mj)|(refine ai (aa iI rfl (p3 _ _) iI) rfl ?_;intro vf))
   exact aj (.inr rfl) rfl ⟨(),rfl,by rw[es];exact aq.rn (yp vd vf) (by unfold cR;simp only[bN,cy,bc,Nd.send,Nd.drop,Pk.gI];exact ah)⟩
 |some x=>
  simp only[hx,eY,bM,Option.isSome_some]at p6
  have es:s.ov src ⟨bK,kind,aH,unknown,id,dest,ak,from_,av,bD,lost,ar⟩={Nd.send s x.next ⟨bK - 1,kind,aH,unknown,id,dest,ak,from_,av,bD,lost,ar⟩with ls:=iY (iY s.ls dest (s.now+3000)) from_ (s.now+3000)}:=by unfold Nd.ov;rw[if_neg h1,if_neg zu];simp only[hx];rfl
  have p7:=fS w0 gn s d x.next ⟨bK - 1,kind,aH,unknown,id,dest,ak,from_,av,bD,lost,ar⟩ ⟨by simp only[cM]at*;omega,by simpa only[cM]using ma,by simp only[cM]at*;omega,by simp only;omega,by simp only;omega⟩ (.slice A lost.length c) rfl (rows 180 2 bB (.slice A lost.length c) lost) (hX:=fy _ _ _ _ _) (by have:=j7.aJ;omega)
  have Qj:=ok.use dest (s.now+3000)
  have p8:=Df w0 d.tb s.self s.ls ok dest (s.now+3000)
  have p9:=Df w0 d.tb s.self (iY s.ls dest (s.now+3000)) Qj from_ (s.now+3000)
  have yp:=fun vf=>(tw.send x.next ⟨bK - 1,kind,aH,unknown,id,dest,ak,from_,av,bD,lost,ar⟩ vf).lines (ls:=iY (iY s.ls dest (s.now+3000)) from_ (s.now+3000)) (fun x hx=>by rw[gY,gY];exact hx)
  unfold cR at p7
  simp only[bN,ad,Pk.val,Pk.cells,Nd.send]at p7
  repeat' (first|refine ag (id:=1) (.range 7) ?_|refine aE (id:=5) 0 5 (.range 17) ?_|refine ae (id:=5) (.range 17) 10 [3,5,9] ?_|refine ae (id:=9) (.range 12) 11 [3,5,9] ?_|refine ae (id:=10) (.range 12) 11 [3,5,9] ?_|(refine ab ?_;intro K hK)|(refine hK _ ?_;clear hK K)|refine ax ?_|(refine aF ?_ ?_<;>intro hc<;>(try simp only[cS]at hc)<;>(try exact aG))|(refine aL iI rfl ?_;intro g)|refine aX ?_|refine az ?_|((first|refine' LQ ?zh rfl ?_|refine' bk rfl rfl ?zh ?_);case zh=>intro F';exact bE rfl rfl iI)|(refine bT ?_;intro g)|(refine bQ ?_;intro g)|(refine aD (aa iI rfl p6 iI) rfl rfl rfl ?_;intro x6)|(refine ai (aa iI rfl p7 iI) rfl ?_;intro vf)|(refine aD (aa iI rfl p8 iI) rfl rfl rfl ?_;intro x8)|(refine aD (aa iI rfl p9 iI) rfl rfl rfl ?_;intro x9))
  exact aj (.inl rfl) rfl ⟨(),rfl,by rw[es];exact aq.rn (yp vf) (by unfold cR;simp only[bN,Nd.send];exact ah)⟩
end
section
open Go.RowKit
attribute [local irreducible] WS LS cD eM cn cv Spec bA aK di cq
variable (w0:World)
theorem HT (W:TW) (gn:Nat) (s:Nd) (now:UInt64) (nb:UInt32) {c:Nat} (hr:s.Rest c) (hn:s.now.toNat≤now.toNat):Spec Tryz.prog w0 80 [ptr gn 0,u64 now,u32 nb] (j9 W gn s) (fun v:Value×Value×Value=>fp (s.l7 now nb).out v) (fun v=>j9 W.next gn (s.l7 now nb)*ei (s.l7 now nb).out v):=by
 have hb:=hr.inv.begin now
 have hs:=Nd.Step.brk (s.begin now) nb
 have h1:=hs.aI
 have h2:=hs.ay
 have h3:=Nd.fL s now hr.inv.dp.dp
 have h4:=Nd.fK s now hr.inv.dp.dp
 have h5:=hr.aI
 have SK:=hb.brk nb
 have pY:(s.begin now).Fit 1:=(Nd.lz hr now).le (by omega)
 have p1:=mv w0 W gn s hr.inv.dp.dp (by omega) now hn
 refine Spec.enter Tryz.func80 rfl Tryz.ntmps80 rfl fun G=> ?_
 simp only[aN]
 unfold Nd.l7
 generalize s.begin now=s1 at*
 have p5:=nS w0 W.next gn (s1.brk nb) SK.dp.dp (by omega) (by omega)
 generalize ((s1.brk nb).done)=s9 at*
 simp only[fp,ei]at p5 ⊢
 have Ri:=uG nb (aQ (aO s1.ls)) s1.ls
 have h8:(aQ (aO s1.ls)).length≤8:=by rw[cF];simpa [aO]using hb.dp.dp.short
 have p2:=fun tb=>KP w0 tb s1.self s1.ls hb.dp.dp nb
 by_cases h0:0<(jh nb (aQ (aO s1.ls)) s1.ls).length
 ·have es:s1.brk nb=Nd.send {s1 with ls:=nH nb s1.ls} 0 (Pk.gI (jh nb (aQ (aO s1.ls)) s1.ls)):=by unfold Nd.brk Nd.lost;rw[if_pos h0]
  have TF:(0:Int)<((jh nb (aQ (aO s1.ls)) s1.ls).length:Int):=by omega
  rw[es]at p5
  generalize jh nb (aQ (aO s1.ls)) s1.ls=l at*
  have p3:=fun d A c=>fS w0 gn {s1 with ls:=nH nb s1.ls} d 0 (Pk.gI l) (Pk.pG _ (by omega)) (.slice A l.length c) rfl (rows 180 2 bB (.slice A l.length c) l) (hX:=fy _ _ _ _ _) (by show s1.out.aJ.length≤900000;have:=pY.aJ;omega)
  have p6:=fun d (tw:Twin W.next s1 d) vf=>Spec.nV (((tw.lines (ls:=nH nb s1.ls) (fun x hx=>by rw[tA];exact hx)).send 0 (Pk.gI l) vf)) p5
  unfold cR at p3 p6
  simp only[bN,ad,Pk.val,Pk.cells,Nd.send,Pk.gI]at p3 p6
  repeat' (first|(refine ab ?_;intro K hK)|(refine hK _ ?_;clear hK K)|refine ax ?_|(refine aF ?_ ?_<;>intro hc<;>(try simp only[cS]at hc)<;>(try exact aG))|refine aX ?_|refine az ?_|(refine bT ?_;intro g)|(refine bQ ?_;intro g)|(refine ai (aa iI rfl p1 iI) rfl ?_;intro x1)|(refine kA (W:=W.next) (g:=gn) (s:=s1) iI fun d tw=> ?_;replace p2:=p2 d.tb;replace p3:=p3 d;replace p6:=p6 d tw;unfold cR;simp only[bN,ad])|(refine ai (aa iI rfl p2 iI) rfl ?_;intro vo;refine fU vo iI fun A cap hv=> ?_;subst hv)|(refine ai (aa iI rfl (p3 _ _) iI) rfl ?_;intro vf;replace p6:=p6 vf)|(refine ai (aa iI rfl p6 iI) rfl ?_;intro x9))
  exact gD (.inl rfl) rfl (aS rfl iI iI rfl) ⟨x9,rfl,ah⟩
 ·have es:s1.brk nb={s1 with ls:=nH nb s1.ls}:=by unfold Nd.brk Nd.lost;rw[if_neg h0]
  have TF:¬(0:Int)<((jh nb (aQ (aO s1.ls)) s1.ls).length:Int):=by omega
  rw[es]at p5
  generalize jh nb (aQ (aO s1.ls)) s1.ls=l at*
  have p6:=fun d (tw:Twin W.next s1 d)=>Spec.nV (tw.lines (ls:=nH nb s1.ls) (fun x hx=>by rw[tA];exact hx)) p5
  unfold cR at p6
  simp only[bN,ad]at p6
  repeat' (first|(refine ab ?_;intro K hK)|(refine hK _ ?_;clear hK K)|refine ax ?_|(refine aF ?_ ?_<;>intro hc<;>(try simp only[cS]at hc)<;>(try exact aG))|refine aX ?_|refine az ?_|(refine bT ?_;intro g)|(refine bQ ?_;intro g)|(refine ai (aa iI rfl p1 iI) rfl ?_;intro x1)|(refine kA (W:=W.next) (g:=gn) (s:=s1) iI fun d tw=> ?_;replace p2:=p2 d.tb;replace p6:=p6 d tw;unfold cR;simp only[bN,ad])|(refine ai (aa iI rfl p2 iI) rfl ?_;intro vo;refine fU vo iI fun A cap hv=> ?_;subst hv)|(refine ai (aa iI rfl p6 iI) rfl ?_;intro x9))
  exact gD (.inl rfl) rfl (aS rfl iI iI rfl) ⟨x9,rfl,ah⟩
end
section
open Go.RowKit
attribute [local irreducible] WS LS cD eM cn cv Spec bA aK di cq
variable (w0:World)
theorem Ib (W:TW) (gn:Nat) (s:Nd) (src:UInt32) (p:Pk) (hp:p.Read) (v:Value) (ok:aW s.ls) (hf:s.Fit 2):Spec Tryz.prog w0 134 [ptr gn 0,u32 src,p.val v] (qe W gn s*rows 180 2 bB v p.lost) (fun _:Unit=> .tuple #[]) (fun _=>qe W gn (s.xC src p)):=by
 have j7:s.Fit 1:=hf.le (by omega)
 refine Spec.enter Tryz.func134 rfl Tryz.ntmps134 rfl fun G=> ?_
 refine jl v iI fun A c hv=> ?_
 subst hv
 obtain⟨Mm,ma,OT,OU,OV⟩:=hp
 obtain⟨bK,kind,aH,unknown,id,dest,ak,from_,av,bD,lost,ar⟩:=p
 simp only[Pk.val,Pk.cells,aN]at*
 refine rz (W:=W) (g:=gn) (s:=s) iI fun d tw=> ?_
 unfold cR
 simp only[bN,ad]
 repeat' (first|(refine ab ?_;intro K hK)|(refine hK _ ?_;clear hK K)|refine ax ?_|refine az ?_|(refine ai (rj rfl) rfl ?_;intro gp))
 refine cV (aq.nil _ 180 2 bB none) ?_
 obtain⟨PC,TP⟩:∃PC:List Value,PC=[.int .i64 bK,.int .i64 kind,.int .i64 aH,.bool unknown,u32 id,u32 dest,u32 ak,u32 from_,u32 av,u32 bD,.slice A lost.length c,aZ ar]:=⟨_,rfl⟩
 have hk:∀a:List Ln×List (UInt32×UInt32)×Bool,a=a:=fun _=>rfl
 have Uy:∀j,aW (bV src s.ls (lost.take j)).1∧(∀x∈aO s.ls,x∈aO (bV src s.ls (lost.take j)).1):=by
  intro j
  induction (lost.take j)using eE with
  |nil=>exact⟨ok,fun x h=>h⟩
  |snoc l x ih=>
   rw[jX]
   refine⟨ih.1.gI _ _ _,fun y hy=> ?_⟩
   show y∈aO (iS _ _ _ _)
   rw[wV]
   exact ih.2 y hy
 refine aV (fun k τ=>∃(j:Nat) (vt:Value),j+k=lost.length∧τ=⟨[(8,.int .i64 (j:Int)),(7,.bool (bV src s.ls (lost.take j)).2.2),(6,vt),(5,ptr gp 0),(1,u32 src),(0,ptr gn 0)],[],aK gn 195 (bN s d s.out)*(rows 28 3 Rec.cells d.vr s.aI*(rows 28 3 Rec.cells d.vh d.held*(ct d.tb s.self (bV src s.ls (lost.take j)).1*(cy d s.out*(bc d*(aK gp 44 PC*(rows 180 2 bB vt (bV src s.ls (lost.take j)).2.1*(rows 180 2 bB (.slice A lost.length c) lost*G))))))))⟩) ?_ ?_
 ·exact⟨lost.length,_,⟨0,.slice none 0 0,by omega,rfl⟩,cG,rfl,by rw[TP];simp only[List.take_zero,bV,List.foldl_nil,bN];exact ah⟩
 rintro k τ ⟨j,vt,ym,rfl⟩
 subst TP
 simp only[bN]
 obtain⟨LA,T3⟩:=Uy j
 rcases Nat.lt_or_ge j lost.length with bW|kQ
 ·obtain⟨⟨ld,lq⟩,hz⟩:∃z,lost[j]? =some z:=⟨_,List.getElem?_eq_getElem bW⟩
  have gK:bV src s.ls (lost.take (j+1))=lR src (bV src s.ls (lost.take j)) (ld,lq):=by rw[List.take_add_one,hz,Option.toList_some,jX]
  have Iy:=jW src s.ls (lost.take j)
  rw[List.length_take]at Iy
  generalize bV src s.ls (lost.take j)=a at*
  obtain⟨gj,tl,sm⟩:=a
  simp only[lR]at gK Iy LA
  have IC:(j:Int)<(lost.length:Int):=by omega
  refine mP (g:=d.tb) (self:=s.self) (ls:=gj) iI fun v xs hR=> ?_
  have ta:=LA.short
  have Hs:=hR.length
  have p1:=iF w0 d.tb s.self v xs (by omega) ld
  have p2:=E8 w0 d.tb s.self v xs (by omega) src ld lq
  have Ix:=hR.gI src ld lq
  have Nh:=hR.fR src ld
  unfold xD at p2 Nh
  unfold CC at p2 Ix
  unfold eA at*
  simp only[ad]
  cases hg:fj xs ld with
  |none=>
   simp only[hg,Option.isSome_none]at p1 p2 Ix Nh
   rw[←Nh]at gK
   simp only[Bool.false_and,Bool.false_eq_true,if_false,Bool.or_false]at gK
   repeat' (first|(show WS _ _ _ (.region 5 _ _) _ _;refine lJ (g:=d.tb) (self:=s.self) (v:=v) (ys:=xs) (xs:=xs) Ix (fun Z=>aq.refl _) iI iI iI ?_)|refine ae (id:=6) (.range 16) 10 [3,5,7,8,9] ?_|refine ae (id:=8) (.range 12) 10 [3,6,8,9] ?_|(refine ab ?_;intro K hK)|(refine hK _ ?_;clear hK K)|refine ax ?_|(refine aF ?_ ?_<;>intro hc<;>(try simp only[cS]at hc)<;>(try exact aG))|refine aX ?_|refine az ?_|(refine aD (aa iI rfl p1 iI) rfl rfl rfl ?_;intro x1;clear p1)|(refine aD (aa iI rfl p2 iI) rfl rfl rfl ?_;intro x2;clear p2))
   all_goals exact⟨k - 1,_,by omega,⟨j+1,vt,by omega,rfl⟩,⟨rfl,by rw[gK];first|rfl|(cases sm<;>first|rfl|contradiction|(exfalso;simp_all)),rfl,rfl,rfl,rfl,trivial⟩,rfl,by rw[gK];simp only[bN];exact ah⟩
  |some p=>
   obtain⟨hp,hd⟩:=fl hg
   have XR:=hR.Na hg
   have IB:kb ld xs<xs.length:=(List.getElem?_eq_some_iff.1 hp).1
   have Lw:=cF p.1.before
   rw[←Nh,XR]at gK
   simp only[hg,Option.isSome_some,Option.getD_some]at p1 p2 Ix Nh gK
   by_cases hv:p.1.valid=true∧p.1.next=src
   ·have UM:(p.1.valid&&decide (p.1.next=src))=true:=by rw[hv.1,decide_eq_true hv.2];rfl
    rw[if_pos hv]at p2 Ix
    rw[UM]at p2 gK
    simp only[Bool.true_and,Bool.or_true]at gK
    have l5:(xs.set (kb ld xs) (lp lq p))[kb ld xs]? =some (lp lq p):=yb IB
    have uZ:kb ld xs<(xs.set (kb ld xs) (lp lq p)).length:=by rw[List.length_set];exact IB
    have SJ:=fun Z=>aq.kG (xs:=xs) (z:=lp lq p) hp (.inr (tE _ _)) Z
    have sY:eJ (iS gj src ld lq) ld=(p.1.ended lq).seq:=by unfold eJ;rw[Ix.Na ((mV Ix.fH).2 ⟨List.mem_of_getElem? l5,hd⟩)];rfl
    rw[sY]at gK
    generalize kb ld xs=i at*
    by_cases hb:0<p.1.before.length
    ·have Iz:(0:Int)<((aQ p.1.before).length:Int):=by omega
     rw[if_pos (by simpa using hb)]at gK
     have Ce:(lp lq p).1.seq=(p.1.ended lq).seq:=rfl
     repeat' (first|(show WS _ _ _ (.region 5 _ _) _ _;refine lJ (g:=d.tb) (self:=s.self) (v:=v) (ys:=xs) (xs:=xs.set i (lp lq p)) Ix SJ iI iI iI ?_)|refine ae (id:=6) (.range 16) 10 [3,5,7,8,9] ?_|refine ae (id:=8) (.range 12) 10 [3,6,8,9] ?_|refine ae (id:=11) (.range 22) 20 [2,4,5,6,10,13,15,16,17] ?_|(refine ab ?_;intro K hK)|(refine hK _ ?_;clear hK K)|refine ax ?_|(refine aF ?_ ?_<;>intro hc<;>(try simp only[cS]at hc)<;>(try exact aG))|refine aX ?_|refine az ?_|(refine aD (aa iI rfl p1 iI) rfl rfl rfl ?_;intro x1;clear p1)|(refine aD (aa iI rfl p2 iI) rfl rfl rfl ?_;intro x2;clear p2)|(refine aD (au bB [(ld,(p.1.ended lq).seq)] iI iI iI rfl rfl rfl rfl rfl iI rfl rfl rfl) rfl rfl rfl ?_;intro vx)|(refine aD (aR rfl rfl iI iI rfl iI iI lA (by simp only[List.length_singleton];omega) rfl) rfl rfl rfl ?_;intro va))
     all_goals exact⟨k - 1,_,by omega,⟨j+1,va,by omega,rfl⟩,⟨rfl,by rw[gK];simp only;first|rfl|(cases sm<;>first|rfl|contradiction|(exfalso;simp_all)),rfl,rfl,rfl,rfl,trivial⟩,rfl,by rw[gK];simp only[bN];exact ah⟩
    ·have Iz:¬(0:Int)<((aQ p.1.before).length:Int):=by omega
     rw[if_neg (by simpa using hb)]at gK
     repeat' (first|(show WS _ _ _ (.region 5 _ _) _ _;refine lJ (g:=d.tb) (self:=s.self) (v:=v) (ys:=xs) (xs:=xs.set i (lp lq p)) Ix SJ iI iI iI ?_)|refine ae (id:=6) (.range 16) 10 [3,5,7,8,9] ?_|refine ae (id:=8) (.range 12) 10 [3,6,8,9] ?_|(refine ab ?_;intro K hK)|(refine hK _ ?_;clear hK K)|refine ax ?_|(refine aF ?_ ?_<;>intro hc<;>(try simp only[cS]at hc)<;>(try exact aG))|refine aX ?_|refine az ?_|(refine aD (aa iI rfl p1 iI) rfl rfl rfl ?_;intro x1;clear p1)|(refine aD (aa iI rfl p2 iI) rfl rfl rfl ?_;intro x2;clear p2))
     all_goals exact⟨k - 1,_,by omega,⟨j+1,vt,by omega,rfl⟩,⟨rfl,by rw[gK];simp only;first|rfl|(cases sm<;>first|rfl|contradiction|(exfalso;simp_all)),rfl,rfl,rfl,rfl,trivial⟩,rfl,by rw[gK];simp only[bN];exact ah⟩
   ·have UM:(p.1.valid&&decide (p.1.next=src))=false:=by
     cases h:p.1.valid with
     |false=>rfl
     |true=>rw[decide_eq_false (fun e=>hv ⟨h,e⟩)];rfl
    rw[if_neg hv]at p2 Ix
    rw[UM]at p2 gK
    simp only[Bool.false_and,Bool.false_eq_true,if_false,Bool.or_false]at gK
    generalize kb ld xs=i at*
    by_cases hb:0<p.1.before.length
    ·have Iz:(0:Int)<((aQ p.1.before).length:Int):=by omega
     repeat' (first|(show WS _ _ _ (.region 5 _ _) _ _;refine lJ (g:=d.tb) (self:=s.self) (v:=v) (ys:=xs) (xs:=xs) Ix (fun Z=>aq.refl _) iI iI iI ?_)|refine ae (id:=6) (.range 16) 10 [3,5,7,8,9] ?_|refine ae (id:=8) (.range 12) 10 [3,6,8,9] ?_|(refine ab ?_;intro K hK)|(refine hK _ ?_;clear hK K)|refine ax ?_|(refine aF ?_ ?_<;>intro hc<;>(try simp only[cS]at hc)<;>(try exact aG))|refine aX ?_|refine az ?_|(refine aD (aa iI rfl p1 iI) rfl rfl rfl ?_;intro x1;clear p1)|(refine aD (aa iI rfl p2 iI) rfl rfl rfl ?_;intro x2;clear p2))
     all_goals exact⟨k - 1,_,by omega,⟨j+1,vt,by omega,rfl⟩,⟨rfl,by rw[gK];first|rfl|(cases sm<;>first|rfl|contradiction|(exfalso;simp_all)),rfl,rfl,rfl,rfl,trivial⟩,rfl,by rw[gK];simp only[bN];exact ah⟩
    ·have Iz:¬(0:Int)<((aQ p.1.before).length:Int):=by omega
     repeat' (first|(show WS _ _ _ (.region 5 _ _) _ _;refine lJ (g:=d.tb) (self:=s.self) (v:=v) (ys:=xs) (xs:=xs) Ix (fun Z=>aq.refl _) iI iI iI ?_)|refine ae (id:=6) (.range 16) 10 [3,5,7,8,9] ?_|refine ae (id:=8) (.range 12) 10 [3,6,8,9] ?_|(refine ab ?_;intro K hK)|(refine hK _ ?_;clear hK K)|refine ax ?_|(refine aF ?_ ?_<;>intro hc<;>(try simp only[cS]at hc)<;>(try exact aG))|refine aX ?_|refine az ?_|(refine aD (aa iI rfl p1 iI) rfl rfl rfl ?_;intro x1;clear p1)|(refine aD (aa iI rfl p2 iI) rfl rfl rfl ?_;intro x2;clear p2))
     all_goals exact⟨k - 1,_,by omega,⟨j+1,vt,by omega,rfl⟩,⟨rfl,by rw[gK];first|rfl|(cases sm<;>first|rfl|contradiction|(exfalso;simp_all)),rfl,rfl,rfl,rfl,trivial⟩,rfl,by rw[gK];simp only[bN];exact ah⟩
 ·obtain rfl:j=lost.length:=by omega
  rw[List.take_of_length_le (Nat.le_refl _)]at LA T3 ⊢
  have Iy:=jW src s.ls lost
  have es:s.xC src ⟨bK,kind,aH,unknown,id,dest,ak,from_,av,bD,lost,ar⟩=if(bV src s.ls lost).2.2=true then Nd.lost {s with ls:=(bV src s.ls lost).1} (bV src s.ls lost).2.1 else Nd.drop (Nd.lost {s with ls:=(bV src s.ls lost).1} (bV src s.ls lost).2.1) 7:=rfl
  generalize bV src s.ls lost=a at*
  obtain⟨gj,tl,sm⟩:=a
  simp only at Iy es LA T3 ⊢
  have IC:¬(lost.length:Int)<(lost.length:Int):=by omega
  have uO:Twin W {s with ls:=gj} d:=tw.lines T3
  by_cases h0:0<tl.length
  ·have TF:(0:Int)<(tl.length:Int):=by omega
   have el:Nd.lost {s with ls:=gj} tl=Nd.send {s with ls:=gj} 0 (Pk.gI tl):=by unfold Nd.lost;rw[if_pos h0]
   rw[el]at es
   have p3:=fun A c=>fS w0 gn {s with ls:=gj} d 0 (Pk.gI tl) (Pk.pG _ (by omega)) (.slice A tl.length c) rfl (rows 180 2 bB (.slice A tl.length c) tl) (hX:=fy _ _ _ _ _) (by show s.out.aJ.length≤900000;have:=hf.aJ;omega)
   have p4:=fun vf=>cx w0 gn (Nd.send {s with ls:=gj} 0 (Pk.gI tl)) {d with vf:=vf} 7 (by show s.out.dropped.length≤_;have:=hf.dropped;omega)
   have lD:=fun vf=>uO.send 0 (Pk.gI tl) vf
   have yp:=fun vf vd=>(lD vf).drop 7 vd
   unfold cR at p3 p4
   simp only[bN,ad,Pk.val,Pk.cells,Nd.send,Pk.gI]at p3 p4
   refine jb vt iI fun A2 c2 mj=> ?_
   subst mj
   cases sm
   ·repeat' (first|(refine ab ?_;intro K hK)|(refine hK _ ?_;clear hK K)|refine ax ?_|(refine aF ?_ ?_<;>intro hc<;>(try simp only[cS]at hc)<;>(try exact aG))|refine aX ?_|refine az ?_|(refine ai (aa iI rfl (p3 _ _) iI) rfl ?_;intro vf;replace p4:=p4 vf)|(refine ai (aa iI rfl p4 iI) rfl ?_;intro vd))
    exact aj (.inr rfl) rfl ⟨(),rfl,by rw[es];simp only[Bool.false_eq_true,if_false];exact aq.rn (yp vf vd) (by unfold cR;simp only[bN,Nd.send,Nd.drop,Pk.gI];exact ah)⟩
   ·repeat' (first|(refine ab ?_;intro K hK)|(refine hK _ ?_;clear hK K)|refine ax ?_|(refine aF ?_ ?_<;>intro hc<;>(try simp only[cS]at hc)<;>(try exact aG))|refine aX ?_|refine az ?_|(refine ai (aa iI rfl (p3 _ _) iI) rfl ?_;intro vf))
    exact aj (.inr rfl) rfl ⟨(),rfl,by rw[es];simp only[if_true];exact aq.rn (lD vf) (by unfold cR;simp only[bN,Nd.send,Pk.gI];exact ah)⟩
  ·have TF:¬(0:Int)<(tl.length:Int):=by omega
   have el:Nd.lost {s with ls:=gj} tl={s with ls:=gj}:=by unfold Nd.lost;rw[if_neg h0]
   rw[el]at es
   have p4:=cx w0 gn {s with ls:=gj} d 7 (by show s.out.dropped.length≤_;have:=hf.dropped;omega)
   unfold cR at p4
   simp only[bN,ad]at p4
   cases sm
   ·repeat' (first|(refine ab ?_;intro K hK)|(refine hK _ ?_;clear hK K)|refine ax ?_|(refine aF ?_ ?_<;>intro hc<;>(try simp only[cS]at hc)<;>(try exact aG))|refine aX ?_|refine az ?_|(refine ai (aa iI rfl p4 iI) rfl ?_;intro vd))
    exact aj (.inr rfl) rfl ⟨(),rfl,by rw[es];simp only[Bool.false_eq_true,if_false];exact aq.rn (uO.drop 7 vd) (by unfold cR;simp only[bN,Nd.drop];exact ah)⟩
   ·repeat' (first|(refine ab ?_;intro K hK)|(refine hK _ ?_;clear hK K)|refine ax ?_|(refine aF ?_ ?_<;>intro hc<;>(try simp only[cS]at hc)<;>(try exact aG))|refine aX ?_|refine az ?_)
    exact aj (.inr rfl) rfl ⟨(),rfl,by rw[es];simp only[if_true];exact aq.rn uO (by unfold cR;simp only[bN];exact ah)⟩
end
section
open Go.RowKit
theorem w7 {q:Pk} (h1:cM q.bK) (h2:cM q.kind) (h3:cM q.aH) (h4:q.lost.length≤100000) (h5:q.ar.length≤100000):q.Ok:=⟨h1,h2,h3,h4,h5⟩
theorem K7 (b:UInt8):cM (b.toNat:Int):=by have:=b.toNat_lt;unfold cM;omega
theorem mT {l:List UInt8} {p:Pk} (hF:p.Fits) (hB:p.bytes=l):Pk.dec l=some p:=Pk.FN.2 ⟨hF,hB⟩
theorem gW {l:List UInt8} {p:Pk} (hc:∀q,Pk.dec l=some q→q=p) (h:¬(p.Fits∧p.bytes=l)):Pk.dec l=none:=by
 cases hd:Pk.dec l with
 |none=>rfl
 |some q=>
  obtain rfl:=hc q hd
  exact absurd (Pk.FN.1 hd) h
attribute [local irreducible] WS LS cD eM cn cv Spec bA iR iQ aK
variable (w0:World)
theorem yG (l:List UInt8) (h:l.length<5):Spec Tryz.prog w0 128 [aZ l] emp (fun v':Value=>gl l v') (fun v'=>ey l v' emp):=by
 have hd:=yZ l h
 simp only[gl,ey,hd,Option.getD_none,Option.isSome_none,Pk.val,Pk.cells]
 refine Spec.enter Tryz.func128 rfl Tryz.ntmps128 rfl fun G=> ?_
 simp only[aN]
 repeat' (first|(refine ab ?_;intro K hK)|(refine hK _ ?_;clear hK K)|refine ax ?_|(refine aF ?_ ?_<;>intro hc<;>(try simp only[cS]at hc)<;>(try exact aG))|refine aX ?_|refine az ?_|(refine bT ?_;intro g)|(refine bQ ?_;intro g))
 exact dF (.inl rfl) rfl (aS rfl iI iI rfl) (bh rfl) ⟨.slice none 0 0,rfl,ah⟩
theorem tH (b:UInt8):cM (b.toNat:Int):=K7 b
theorem yF (l:List UInt8) (t k f z n:UInt8) (r:List UInt8) (ku:l=t::k::f::z::n::r) (hr:r.length≤100000) (k1:¬(k.toNat=1∧r.length=20)) (k2:¬(k.toNat=2∧r.length=16)) (k3:¬(k.toNat=3∧r.length=8*n.toNat)) (k9:¬(k.toNat=9∧r.length=12+n.toNat)):Spec Tryz.prog w0 128 [aZ l] emp (fun v':Value=>gl l v') (fun v'=>ey l v' emp):=by
 have h0:l[0]? =some t:=by rw[ku];rfl
 have h1:l[1]? =some k:=by rw[ku];rfl
 have h4:l[4]? =some n:=by rw[ku];rfl
 have uD:l.drop 5=r:=by rw[ku];rfl
 have hlen:l.length=r.length+5:=by rw[ku];rfl
 have Rh:=n.toNat_lt
 have El:(l.drop 5).length=r.length:=by rw[uD]
 have hd:Pk.dec l=none:=by
  rw[ku]
  simp only[Pk.dec,Pk.body]
  repeat' split
  all_goals first|rfl|(exfalso;rename_i hk hc;subst hk;first|exact k1 ⟨rfl,hc.1⟩|exact k2 ⟨rfl,hc.1⟩|exact k3 ⟨rfl,hc.2.2.1⟩|exact k9 ⟨rfl,hc.2.1⟩)
 simp only[gl,ey,hd,Option.getD_none,Option.isSome_none,Pk.val,Pk.cells]
 refine Spec.enter Tryz.func128 rfl Tryz.ntmps128 rfl fun G=> ?_
 simp only[aN]
 repeat' (first|refine ae (id:=3) (.range 9) 8 [1,2,4,5] ?_|refine cK (id:=3) 4 (.range 9) 8 [] ?_|(refine ab ?_;intro K hK)|(refine hK _ ?_;clear hK K)|refine ax ?_|(refine aF ?_ ?_<;>intro hc<;>(try simp only[cS]at hc)<;>(try exact aG))|(refine aL iI rfl ?_;intro g)|refine aX ?_|refine az ?_|((first|refine' LQ ?zh rfl ?_|refine' bP rfl rfl rfl ?zh ?_|refine' bk rfl rfl ?zh ?_);case zh=>intro F';first|exact fu rfl iI iI|exact eH rfl rfl iI iI (by assumption)|exact dC rfl rfl iI iI (by first|assumption|omega))|((first|refine dn rfl rfl iI rfl ?_ ?_|refine dm rfl rfl iI rfl ?_ ?_|refine dU rfl rfl iI rfl ?_ ?_)<;>intro hc)|(refine bT ?_;intro g)|(refine bQ ?_;intro g))
 all_goals first
  |(exfalso;omega)
  |exact dF (.inl rfl) rfl (aS rfl iI iI rfl) (bh rfl) ⟨.slice none 0 0,rfl,ah⟩
theorem HX (l:List UInt8) (t k f z n:UInt8) (r:List UInt8) (ku:l=t::k::f::z::n::r) (hr:r.length≤100000) (hk:k.toNat=2) (hl:r.length=16):Spec Tryz.prog w0 128 [aZ l] emp (fun v':Value=>gl l v') (fun v'=>ey l v' emp):=by
 have h0:l[0]? =some t:=by rw[ku];rfl
 have h1:l[1]? =some k:=by rw[ku];rfl
 have h2:l[2]? =some f:=by rw[ku];rfl
 have h4:l[4]? =some n:=by rw[ku];rfl
 have uD:l.drop 5=r:=by rw[ku];rfl
 have hlen:l.length=r.length+5:=by rw[ku];rfl
 have Rh:=n.toNat_lt
 have El:(l.drop 5).length=r.length:=by rw[uD]
 obtain⟨p,hp⟩:∃p:Pk,p=⟨t.toNat,k.toNat,n.toNat,false,0,bm r 0,bm (r.drop 4) 0,bm (r.drop 8) 0,0,bm (r.drop 12) 0,[],[]⟩:=⟨_,rfl⟩
 have hc:∀q,Pk.dec l=some q→q=p:=fun q hq=>by
  rw[ku]at hq
  obtain rfl:=dk hk (by decide)
  simp only[Pk.dec,Pk.body]at hq
  repeat' split at hq
  all_goals first|(cases hq;done)|(exfalso;simp_all;done)|(cases hq;rw[hp];simp[cI])
 have n0:=cg w0 r (by omega)
 have n4:=cg w0 (r.drop 4) (by(try simp only[List.length_drop]);omega)
 have n8:=cg w0 (r.drop 8) (by(try simp only[List.length_drop]);omega)
 have n12:=cg w0 (r.drop 12) (by(try simp only[List.length_drop]);omega)
 have gG:p.Ok:=by rw[hp];exact w7 (K7 _) (K7 _) (tH _) (by simp) (by simp<;>omega)
 haveI qH:eX w0 emp (.slice none 0 0) (UInt32×UInt32) 2 bB p.lost:=by rw[hp];exact mw emp 2 bB
 have dY:=gJ w0 p gG (.slice none 0 0) rfl emp
 have jd:p.lost=[]:=by rw[hp]
 by_cases hF:p.Fits
 ·rw[Pk.mx hF]at dY
  by_cases hB:p.bytes=l
  ·have hd:=mT hF hB
   simp only[gl,ey,hd,Option.getD_some,Option.isSome_some,if_true,jd]
   rw[hB]at dY
   simp only[Pk.val,Pk.cells]at dY ⊢
   subst hp
   dsimp only at dY ⊢
   clear hc gG hd jd qH
   refine Spec.enter Tryz.func128 rfl Tryz.ntmps128 rfl fun G=> ?_
   simp only[aN]
   repeat' (first|refine ae (id:=3) (.range 9) 8 [1,2,4,5] ?_|refine cK (id:=3) 4 (.range 9) 8 [] ?_|(refine ab ?_;intro K hK)|(refine hK _ ?_;clear hK K)|refine ax ?_|(refine aF ?_ ?_<;>intro hc<;>(try simp only[cS]at hc)<;>(try exact aG))|(refine aL iI rfl ?_;intro g)|refine az ?_|((first|refine' LQ ?zh rfl ?_|refine' bP rfl rfl rfl ?zh ?_|refine' bk rfl rfl ?zh ?_);case zh=>intro F';first|exact bp rfl rfl iI (by first|assumption|omega|decide|rfl)|exact bH rfl rfl iI (by first|assumption|omega|decide|rfl)|exact du rfl rfl iI (by first|assumption|omega|decide|rfl)|exact fu rfl iI iI|exact eH rfl rfl iI iI (by assumption)|exact dC rfl rfl iI iI (by first|assumption|omega))|(refine bT ?_;intro g)|(refine bQ ?_;intro g)|(refine ai (aa iI rfl n0 iI) rfl ?_;intro u)|(refine ai (aa iI rfl n4 iI) rfl ?_;intro u)|(refine ai (aa iI rfl n8 iI) rfl ?_;intro u)|(refine ai (aa iI rfl n12 iI) rfl ?_;intro u)|(refine ai (aa iI rfl dY iI) rfl ?_;intro u)|rw[uD])
   exact dF (.inl rfl) rfl (aS rfl iI iI rfl) (bh rfl) ⟨.slice none 0 0,rfl,ah⟩
  ·have hd:=gW hc (fun h=>hB h.2)
   simp only[gl,ey,hd,Option.getD_none,Option.isSome_none,Pk.val,Pk.cells]
   simp only[Pk.val,Pk.cells]at dY
   subst hp
   dsimp only at dY ⊢
   clear hc gG hd jd qH
   refine Spec.enter Tryz.func128 rfl Tryz.ntmps128 rfl fun G=> ?_
   simp only[aN]
   repeat' (first|refine ae (id:=3) (.range 9) 8 [1,2,4,5] ?_|refine cK (id:=3) 4 (.range 9) 8 [] ?_|(refine ab ?_;intro K hK)|(refine hK _ ?_;clear hK K)|refine ax ?_|(refine aF ?_ ?_<;>intro hc<;>(try simp only[cS]at hc)<;>(try exact aG))|(refine aL iI rfl ?_;intro g)|refine az ?_|((first|refine' LQ ?zh rfl ?_|refine' bP rfl rfl rfl ?zh ?_|refine' bk rfl rfl ?zh ?_);case zh=>intro F';first|exact bp rfl rfl iI (by first|assumption|omega|decide|rfl)|exact bH rfl rfl iI (by first|assumption|omega|decide|rfl)|exact fC rfl rfl iI (by first|assumption|omega|decide|rfl)|exact du rfl rfl iI (by first|assumption|omega|decide|rfl)|exact fu rfl iI iI|exact eH rfl rfl iI iI (by assumption)|exact dC rfl rfl iI iI (by first|assumption|omega))|(refine bT ?_;intro g)|(refine bQ ?_;intro g)|(refine ai (aa iI rfl n0 iI) rfl ?_;intro u)|(refine ai (aa iI rfl n4 iI) rfl ?_;intro u)|(refine ai (aa iI rfl n8 iI) rfl ?_;intro u)|(refine ai (aa iI rfl n12 iI) rfl ?_;intro u)|(refine ai (aa iI rfl dY iI) rfl ?_;intro u)|rw[uD])
   exact dF (.inl rfl) rfl (aS rfl iI iI rfl) (bh rfl) ⟨.slice none 0 0,rfl,ah⟩
 ·rw[Pk.my hF]at dY
  have hd:=gW hc (fun h=>hF h.1)
  simp only[gl,ey,hd,Option.getD_none,Option.isSome_none,Pk.val,Pk.cells]
  simp only[Pk.val,Pk.cells]at dY
  subst hp
  dsimp only at dY ⊢
  clear hc gG hd jd qH
  refine Spec.enter Tryz.func128 rfl Tryz.ntmps128 rfl fun G=> ?_
  simp only[aN]
  repeat' (first|refine ae (id:=3) (.range 9) 8 [1,2,4,5] ?_|refine cK (id:=3) 4 (.range 9) 8 [] ?_|(refine ab ?_;intro K hK)|(refine hK _ ?_;clear hK K)|refine ax ?_|(refine aF ?_ ?_<;>intro hc<;>(try simp only[cS]at hc)<;>(try exact aG))|(refine aL iI rfl ?_;intro g)|refine az ?_|((first|refine' LQ ?zh rfl ?_|refine' bP rfl rfl rfl ?zh ?_|refine' bk rfl rfl ?zh ?_);case zh=>intro F';first|exact bp rfl rfl iI (by first|assumption|omega|decide|rfl)|exact bH rfl rfl iI (by first|assumption|omega|decide|rfl)|exact fC rfl rfl iI (by first|assumption|omega|decide|rfl)|exact fu rfl iI iI|exact eH rfl rfl iI iI (by assumption)|exact dC rfl rfl iI iI (by first|assumption|omega))|(refine bT ?_;intro g)|(refine bQ ?_;intro g)|(refine ai (aa iI rfl n0 iI) rfl ?_;intro u)|(refine ai (aa iI rfl n4 iI) rfl ?_;intro u)|(refine ai (aa iI rfl n8 iI) rfl ?_;intro u)|(refine ai (aa iI rfl n12 iI) rfl ?_;intro u)|(refine ai (aa iI rfl dY iI) rfl ?_;intro u)|rw[uD])
  exact dF (.inl rfl) rfl (aS rfl iI iI rfl) (bh rfl) ⟨.slice none 0 0,rfl,ah⟩
end
end Go.Proofs.YtapoehkdnglahabGreat

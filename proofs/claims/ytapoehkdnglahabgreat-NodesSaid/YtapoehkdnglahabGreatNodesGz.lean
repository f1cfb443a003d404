/- Proved: 'mesh/meshlaw.Nodes' returns true, whatever the input, and leaves it alone; there are no conditions. -/
import Derived.Test.YtapoehkdnglahabGreatNodesGy
set_option maxRecDepth 100000
set_option linter.unusedVariables false
set_option linter.unusedSimpArgs false
set_option linter.unusedSectionVars false
namespace Go.Proofs.YtapoehkdnglahabGreat
end Go.Proofs.YtapoehkdnglahabGreat
namespace Go.Proofs.YtapoehkdnglahabGreat.nodes
open Go.ChangeShapes Go.WideShapes Go.ChangeAt Go.RowKit Go.Proofs.YtapoehkdnglahabGreat
theorem own:ownKnob Tryz.prog.godebug=none:=by kernel_rfl
theorem lifted (os:Os) (started:os.Started) (H:Type) (enc:TypeId×Value→H):
 ReturnsInHanded {} Tryz.checked os 5 .any (Rows.nodesSpec.pre6 enc Tryz.prog Tryz.f5 Rows.nodesRow.domain false) (Rows.nodesSpec.post enc Tryz.prog Tryz.f5 false true false false):=by
 refine returnsInHanded_of_change (C:=Tryz.checked) own started (by kernel_rfl) Tryz.func5
  (ChangeSpec.witness6 (enc:=enc) (C:=Tryz.checked) false ⟨#[],#[.int .u32 0,.string ⟨#[]⟩,.int .u64 0,.slice none 0 0],[]⟩ 8 (by kernel_rfl) (by kernel_rfl) (by kernel_rfl) (by kernel_rfl)) ?_
 intro W base args ds gs before Nr hW Xw _
 have Kd:∀(j:Nat) t v,Tryz.f5.params[j]? =some t→args[j]? =some v→Value.okWide Tryz.prog W .any base t v:=Nr
 have PX:=hW
 obtain⟨p,q,VJ,hV,rfl,XD,xm⟩:=hW
 have hA:DataW.TrodAll enc Tryz.prog W 0 (fun _=>true) true Tryz.f5.params.toList args.toList ds p:=VJ
 rw[Tryz.params5]at hA Kd
 clear VJ Nr
 obtain⟨v0,r0,d0,e0,p0,q0,eB,rfl,rfl,h0,hA⟩:=trodAll_cons hA
 obtain⟨v1,r1,d1,e1,p1,q1,rfl,rfl,rfl,h1,hA⟩:=trodAll_cons hA
 obtain⟨v2,r2,d2,e2,p2,q2,rfl,rfl,rfl,h2,hA⟩:=trodAll_cons hA
 obtain⟨v3,r3,d3,e3,p3,q3,rfl,rfl,rfl,h3,hA⟩:=trodAll_cons hA
 obtain⟨rfl,rfl,rfl⟩:=trodAll_nil hA
 obtain rfl:args= #[v0,v1,v2,v3]:=by cases args;simp_all
 obtain⟨rfl,rfl⟩:=trodVars_none hV
 simp only[List.append_nil]at PX
 have Uo:∀x∈p0,x.block<W.heap.size:=fun x hx=>by simpa using PX.lt x (by simp[hx])
 have JP:∀(W':World),Below W.heap.size W W'→DataW.Trod enc Tryz.prog W' 0 (fun b=>decide (b<W.heap.size)) true 26 v0 d0 p0:=fun W' hn=>Below.trod laid (by kernel_rfl) (of_decide_eq_true (by kernel_rfl)) h0 hn Uo
 have Up:∀x∈p1,x.block<W.heap.size:=fun x hx=>by simpa using PX.lt x (by simp[hx])
 have Iz:∀(W':World),Below W.heap.size W W'→DataW.Trod enc Tryz.prog W' 0 (fun b=>decide (b<W.heap.size)) true 9 v1 d1 p1:=fun W' hn=>Below.trod laid (by kernel_rfl) (of_decide_eq_true (by kernel_rfl)) h1 hn Up
 have J3:∀x∈p2,x.block<W.heap.size:=fun x hx=>by simpa using PX.lt x (by simp[hx])
 have FT:∀(W':World),Below W.heap.size W W'→DataW.Trod enc Tryz.prog W' 0 (fun b=>decide (b<W.heap.size)) true 24 v2 d2 p2:=fun W' hn=>Below.trod laid (by kernel_rfl) (of_decide_eq_true (by kernel_rfl)) h2 hn J3
 have Uq:∀x∈p3,x.block<W.heap.size:=fun x hx=>by simpa using PX.lt x (by simp[hx])
 have SI:∀(W':World),Below W.heap.size W W'→DataW.Trod enc Tryz.prog W' 0 (fun b=>decide (b<W.heap.size)) true 55 v3 d3 p3:=fun W' hn=>Below.trod laid (by kernel_rfl) (of_decide_eq_true (by kernel_rfl)) h3 hn Uq
 have main:Calls Tryz.prog 5 #[v0,v1,v2,v3] W fun e w'=>e= .returned (.bool true)∧Below W.heap.size W w':=by
  obtain⟨m0,rfl⟩:=okWide_int Tryz.underlying26 (Kd 0 26 v0 rfl rfl)
  obtain⟨self,sZ,_⟩:=vL (kq Tryz.underlying26) h0
  have SC:Value.int .u32 m0=u32 self:=by simpa [Value.cells,K6]using sZ
  rw[SC]
  obtain⟨str,rfl⟩:=okWide_string Tryz.underlying9 (Kd 1 9 v1 rfl rfl)
  obtain⟨j,hj,_⟩:=vL (Au Tryz.underlying9) h1
  have es:Value.string str=aZ j:=by simpa [Value.cells,MR]using hj
  rw[es]
  obtain⟨m2,rfl⟩:=okWide_int Tryz.underlying24 (Kd 2 24 v2 rfl rfl)
  obtain⟨now,Wa,_⟩:=vL (FO Tryz.underlying24) h2
  have WY:Value.int .u64 m2=u64 now:=by simpa [Value.cells,PL]using Wa
  rw[WY]
  obtain⟨A,n0,c0,rfl⟩:=okWide_slice Tryz.underlying55 (Kd 3 55 v3 rfl rfl)
  obtain⟨l,hR,hl⟩:=GU (f:=rL) (size:=16) (fun _=>rfl) (by decide) Tryz.underlying55 (by kernel_rfl) JA h3
  have Y5:=hR.WD
  have l9:∀c∈l,eX W (yn W) c.lv (UInt32×UInt32) 2 bB c.p.lost∧c.lv.oneCell'=true∧cM c.p.bK∧cM c.p.kind∧cM c.p.aH:=fun c hc=>by
   obtain⟨k0,k1,k2,k3⟩:=hl c hc
   exact⟨k3.WD,by obtain⟨A,c,e,_⟩:=k3.form;rw[e];rfl,k0,k1,k2⟩
  exact(Zq W self j now _ l (yn W) l9).law
 refine main.mono fun e W' ⟨he,hb⟩=> ?_
 subst he
 refine⟨_,rfl,_,_,_,[],p0++(p1++(p2++(p3))),[],PX,?_,?_,rfl,hb.frame _,fun h=>by cases h⟩
 ·exact trodAll_mk1 (shut_bool Tryz.underlying4 _)
 ·exact trodAll_cons_mk (JP _ hb) (trodAll_cons_mk (Iz _ hb) (trodAll_cons_mk (FT _ hb) (trodAll_mk1 (SI _ hb))))
theorem over:Rows.nodesRow.holds Tryz.pinned (OpenSpec.ofChange Rows.nodesSpec):=
 OpenClaim.holds_of_wide 5 Tryz.f5 rfl rfl rfl rfl rfl rfl rfl ⟨rfl,rfl,rfl,rfl,rfl⟩ rfl rfl rfl rfl rfl (by kernel_rfl) Tryz.func5 (by kernel_rfl)
  (of_decide_eq_true (by kernel_rfl)) (by unfold Func.isWrapper;first|(rw[if_pos (by decide+kernel)];kernel_rfl)|(rw[if_neg (by decide+kernel)];exact⟨rfl,rfl⟩))
  (fun os started H enc _=>lifted os started H enc)
theorem proved:Rows.NodesSaid:=over
end Go.Proofs.YtapoehkdnglahabGreat.nodes

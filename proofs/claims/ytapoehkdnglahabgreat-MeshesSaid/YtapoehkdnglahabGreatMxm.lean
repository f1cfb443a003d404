/- Proved: 'mesh/meshlaw.Meshes' returns true, whatever the input, and leaves it alone; there are no conditions. -/
import Derived.Test.YtapoehkdnglahabGreatMxd
set_option maxHeartbeats 0
set_option maxRecDepth 100000
set_option linter.all false
namespace Go.Proofs.YtapoehkdnglahabGreat.meshes
open Go.ChangeShapes Go.WideShapes Go.ChangeAt Go.RowKit Go.Proofs.YtapoehkdnglahabGreat
theorem own:ownKnob Tryz.prog.godebug=none:=by kernel_rfl
theorem lifted (os:Os) (started:os.Started) (H:Type) (enc:TypeId×Value->H):
 ReturnsInHanded {} Tryz.checked os 9 .any (Rows.meshesSpec.pre6 enc ucC Tryz.f9 Rows.meshesRow.domain false) (Rows.meshesSpec.post enc ucC Tryz.f9 false true false false):=by
 refine returnsInHanded_of_change (C:=Tryz.checked) own started (by kernel_rfl) Tryz.func9
  (ChangeSpec.witness6 (enc:=enc) (C:=Tryz.checked) false ⟨#[],#[.slice none 0 0,.slice none 0 0],[]⟩ 8 (by kernel_rfl) (by kernel_rfl) (by kernel_rfl) (by kernel_rfl)) ?_
 intro W base args ds gs before Nr hW Xw _
 have Kd:∀(j:Nat) t v,Tryz.f9.params[j]? =some t->args[j]? =some v->Value.okWide ucC W .any base t v:=Nr
 have PX:=hW
 obtain⟨p,q,VJ,hV,rfl,XD,xm⟩:=hW
 have hA:DataW.TrodAll enc ucC W 0 (λ_=>true) true Tryz.f9.params.toList args.toList ds p:=VJ
 rw[Tryz.params9]at hA Kd
 clear VJ Nr
 obtain⟨v0,r0,d0,e0,p0,q0,eB,rfl,rfl,h0,hA⟩:=trodAll_cons hA
 obtain⟨v1,r1,d1,e1,p1,q1,rfl,rfl,rfl,h1,hA⟩:=trodAll_cons hA
 obtain⟨rfl,rfl,rfl⟩:=trodAll_nil hA
 obtain rfl:args= #[v0,v1]:=by cases args;simp_all
 obtain⟨rfl,rfl⟩:=trodVars_none hV
 simp only[rL]at PX
 have Uo:∀x∈p0,x.block<W.heap.size:=λx hx=>by simpa using PX.lt x (by simp[hx])
 have JP:∀(W':World),Below W.heap.size W W'->DataW.Trod enc ucC W' 0 (λb=>decide (b<W.heap.size)) true 51 v0 d0 p0:=λW' hn=>Below.trod laid (by kernel_rfl) (uaM (by kernel_rfl)) h0 hn Uo
 have Up:∀x∈p1,x.block<W.heap.size:=λx hx=>by simpa using PX.lt x (by simp[hx])
 have Iz:∀(W':World),Below W.heap.size W W'->DataW.Trod enc ucC W' 0 (λb=>decide (b<W.heap.size)) true 58 v1 d1 p1:=λW' hn=>Below.trod laid (by kernel_rfl) (uaM (by kernel_rfl)) h1 hn Up
 have main:Calls ucC 9 #[v0,v1] W λe w'=>e= .returned (.bool true)/\Below W.heap.size W w':=by
  obtain⟨A0,n0,c0,rfl⟩:=okWide_slice Tryz.underlying51 (Kd 0 51 v0 rfl rfl);obtain⟨l0,hR0,_⟩:=GU (f:=cA) (size:=1) (λ_=>rfl) (by decide) Tryz.underlying51 (by kernel_rfl) (kq Tryz.underlying26) h0;obtain⟨A1,n1,c1,rfl⟩:=okWide_slice Tryz.underlying58 (Kd 1 58 v1 rfl rfl);obtain⟨l1,hR1,hl⟩:=GU (f:=opC) (size:=6) (λ_=>rfl) (by decide) Tryz.underlying58 (by kernel_rfl) zeV h1;have zgj:=hR0.WD;have zgl:=hR1.WD;exact(zdC W _ l0 _ l1 (λo ho=>hl o ho) (yn W)).law
 refine main.mono λe W' ⟨he,hb⟩=> ?_
 subst he
 refine⟨_,rfl,_,_,_,[],p0++(p1),[],PX,?_,?_,rfl,hb.frame _,λh=>by cases h⟩
 ·exact trodAll_mk1 (shut_bool Tryz.underlying4 _)
 ·exact trodAll_cons_mk (JP _ hb) (trodAll_mk1 (Iz _ hb))
theorem over:Rows.meshesRow.holds Tryz.pinned (OpenSpec.ofChange Rows.meshesSpec):=
 OpenClaim.holds_of_wide 9 Tryz.f9 rfl rfl rfl rfl rfl rfl rfl ⟨rfl,rfl,rfl,rfl,rfl⟩ rfl rfl rfl rfl rfl (by kernel_rfl) Tryz.func9 (by kernel_rfl)
  (uaM (by kernel_rfl)) (by unfold Func.isWrapper;first|(rw[jF (by decide+kernel)];kernel_rfl)|(rw[eQ (by decide+kernel)];exact⟨rfl,rfl⟩))
  (λos started H enc _=>lifted os started H enc)
theorem proved:Rows.MeshesSaid:=over
end Go.Proofs.YtapoehkdnglahabGreat.meshes

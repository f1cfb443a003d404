/- A part of what Nodes needs. -/
import Derived.Test.YtapoehkdnglahabGreatNodesGi
set_option maxHeartbeats 16000000
set_option maxRecDepth 100000
set_option linter.unusedVariables false
set_option linter.unusedSimpArgs false
set_option linter.unusedSectionVars false
namespace Go.Proofs.YtapoehkdnglahabGreat
section
open Go.RowKit
def df (l:List Rec):UInt32:=l.foldl (fun m r=>if r.own then max m r.seq else m) 0
theorem uF (l:List Rec) (r:Rec):df (l++[r])=if r.own then max (df l) r.seq else df l:=by simp[df]
def Nd.blank (self:UInt32):Nd:=⟨self,1,[],[],0,[],0,[],[],[],[],[],0,0,0,0,[],0,dS.zero⟩
def Nd.bO (self:UInt32) (b:List UInt8) (now:UInt64):Nd:=if 0<b.length then {Nd.blank self with seq:=bS (df (ic b)),ls:=iV self (cC (ic b)),cd:=now+2000}else Nd.blank self
def Nd.new (self:UInt32) (b:List UInt8) (now:UInt64):Nd:=((Nd.bO self b now).write ⟨true,0,(Nd.bO self b now).seq⟩).note
def Nd.gZ (self:UInt32) (b:List UInt8) (now:UInt64):dS:={(Nd.new self b now).out with replace:=decide (0<b.length)}
theorem Nd.px (self:UInt32) (b:List UInt8) (now:UInt64):aW (Nd.bO self b now).ls:=by
 unfold Nd.bO
 split
 ·exact aW.new _ _
 ·exact aW.nil
theorem AR {κ ν κ' ν':Type} (fk:κ→Value) (fv:ν→Value) (W4:κ'→Value) (W5:ν'→Value) (r:Nat):mp fk fv r []=mp W4 W5 r []:=rfl
theorem Nw {H F:af} (gn tb r0 r1 r2 r3 r4:Nat) (cb:Nat×Nat) (self q:UInt32) (ls:List Ln) (si:UInt64)
 (e:aq H (aK gn 159 [.int .i32 0,u32 0,u32 self,u32 q,ptr tb 0,.slice none 0 0,u32 0,.map (some r0),u64 si,.map (some r1),.slice none 0 0,.map (some r2),.map (some r3),.map (some r4),ptr cb.1 0,.int .i64 0,u32 0,u32 0,.slice none 0 0,u64 0,aZ [],.bool false,.slice none 0 0,.slice none 0 0,.slice none 0 0]*(rows 28 3 Rec.cells (.slice none 0 0) []*(mp u32 u32 r0 []*(mp u32 u32 r1 []*(mp u32 u32 r2 []*(mp u32 u32 r3 []*(mp u32 u32 r4 []*(dR tb self ls*(fZ cb.1 cb.2 0 []*F)))))))))):
 aq H (aY 0 gn {Nd.blank self with seq:=q,ls:=ls,cd:=si} ⟨tb,.slice none 0 0,r0,r1,.slice none 0 0,r2,r3,r4,cb.1,cb.2,.slice none 0 0,.slice none 0 0,.slice none 0 0,.slice none 0 0,[],[]⟩*F):=by
 have a:∀Z,aq (mp u32 u32 r2 []*Z) (mA r2 [] []*Z):=fun Z=>by
  unfold mA
  rw[ad];refine aq.ji rfl ?_;rw[AR u32 u32 u32 cT r2];simp only[jA,List.zipWith_nil_left,n5,bl];exact aq.refl _
 have b:∀Z,aq (fZ cb.1 cb.2 0 []*Z) (iA cb.1 cb.2 0 []*Z):=fun Z=>aq.mX (p:=fun l:List Tm=>pure' (TR l [] 0)*fZ cb.1 cb.2 0 l) [] (by rw[ad];exact aq.ji TR.nil (aq.refl _))
 refine(e.trans (aq.tail _ (aq.tail _ (aq.tail _ (aq.tail _ ((a _).trans (aq.tail _ (aq.tail _ (aq.tail _ (aq.tail _ (b _))))))))))).trans ?_
 rw[AR u32 u32 Bt u64 r1,AR u32 u32 u32 gw r3,AR u32 u32 i64 gw r4]
 unfold aY bb cw ba eu nZ
 have ep:(pure' (([]:List Nat).length=([]:List Sr).length))=emp:=qQ (φ:=([]:List Nat).length=([]:List Sr).length) rfl
 simp only[Nd.blank,dS.zero,Dn,nR,oR,List.zipWith_nil_left,aB,ep]
 refine(aq.nil _ 48 2 dA none).trans ?_
 refine(aq.nil _ 70 2 dA none).trans ?_
 refine(aq.nil _ 166 1 lr none).trans ?_
 refine(aq.nil _ 269 2 sE none).trans ?_
 refine(aq.nil _ 24 1 eL none).trans ?_
 have ez:(Value.int .u32 0:Value)=u32 0:=rfl
 rw[ez]
 exact ah
attribute [local irreducible] WS LS cD eM cn cv Spec bA aK
variable (w0:World)
theorem HH (self:UInt32) (b:List UInt8) (hb:b.length≤1000000) (now:UInt64) (v:Value) (X:af) [hX:eX w0 X v UInt8 1 bU b]:
 Spec Tryz.prog w0 32 [u32 self,v,u64 now] X (fun x:Nat×(Value×Value×Value)=> .tuple #[ptr x.1 0,fp (Nd.gZ self b now) x.2]) (fun x=>jg x.1 (Nd.new self b now)*(ei (Nd.gZ self b now) x.2*X)):=by
 have p1:=zH w0 self [] (by simp) (.slice none 0 0) (rows 28 3 Rec.cells (.slice none 0 0) [])
 have e1:iV self (cC [])=[]:=by rw[show cC []=[]from List.length_eq_zero_iff.1 (Nat.le_zero.1 (iM []))];rfl
 rw[e1]at p1
 have p2:=Hl w0
 have p3:=Fp w0 b hb v X
 refine Spec.enter Tryz.func32 rfl Tryz.ntmps32 rfl fun G=> ?_
 simp only[aN]
 refine cV (aq.nil _ 28 3 Rec.cells none) ?_
 by_cases JP:0<b.length
 ·repeat' (first|(refine ab ?_;intro K hK)|(refine hK _ ?_;clear hK K)|refine ax ?_|(refine aF ?_ ?_<;>intro hc<;>(try simp only[cS]at hc)<;>(try exact aG))|refine aX ?_|refine az ?_|(refine bQ ?_;intro g)|(refine ai (ph iI) rfl ?_;intro g0)|(refine ai (rj rfl) rfl ?_;intro gn)|(refine ai (aa iI rfl p1 iI) rfl ?_;intro tb)|(refine ai (vv iI rfl p2) rfl ?_;intro cb)|(refine ai (ew u32 u32 (d:=some 18)) rfl ?_;intro r0)|(refine ai (ew u32 u32 (d:=some 20)) rfl ?_;intro r1)|(refine ai (ew u32 u32 (d:=some 21)) rfl ?_;intro r2)|(refine ai (ew u32 u32 (d:=some 22)) rfl ?_;intro r3)|(refine ai (ew u32 u32 (d:=some 23)) rfl ?_;intro r4)|(refine ai (aa iI rfl p3 iI) rfl ?_;intro vl))
  have hl:=sD b
  generalize hj:ic b=l at*
  have p4:=zH w0 self l (by omega) vl (rows 28 3 Rec.cells vl l)
  have p5:=mW w0 (df l)
  obtain⟨R,hR⟩:∃R:af,R=X*(fZ cb.1 cb.2 0 []*(mp u32 u32 r4 []*(mp u32 u32 r3 []*(mp u32 u32 r2 []*(mp u32 u32 r1 []*(mp u32 u32 r0 []*(dR tb self []*(rows 28 3 Rec.cells (.slice none 0 0) []*(aK g0 35 [aZ [],.bool false,.slice none 0 0,.slice none 0 0,.slice none 0 0]*G))))))))):=⟨_,rfl⟩
  refine aV (fun k τ=>∃j:Nat,j+k=l.length∧τ=⟨[(41,.int .i64 (j:Int)),(40,.int .i64 (l.length:Int)),(39,vl),(10,vl),(9,.bool true),(8,ptr gn 0),(7,ptr g0 0),(0,u32 self),(0+1+1,u64 now)],[],aK gn 159 [.int .i32 0,u32 0,u32 self,u32 (df (l.take j)),ptr tb 0,.slice none 0 0,u32 0,.map (some r0),u64 0,.map (some r1),.slice none 0 0,.map (some r2),.map (some r3),.map (some r4),ptr cb.1 0,.int .i64 0,u32 0,u32 0,.slice none 0 0,u64 0,aZ [],.bool false,.slice none 0 0,.slice none 0 0,.slice none 0 0]*(rows 28 3 Rec.cells vl l*R)⟩) ?_ ?_
  ·exact⟨l.length,_,⟨0,by omega,rfl⟩,cG,rfl,by rw[hR];have ez:(Value.int .u32 0:Value)=u32 0:=rfl;simp only[List.take_zero,df,List.foldl_nil,ez];exact ah⟩
  ·rintro k τ ⟨j,ym,rfl⟩
   rcases Nat.lt_or_ge j l.length with bW|kQ
   ·obtain⟨⟨zo,za,zs⟩,hz⟩:∃z,l[j]? =some z:=⟨_,List.getElem?_eq_getElem bW⟩
    have gK:df (l.take (j+1))=if zo then max (df (l.take j)) zs else df (l.take j):=by rw[List.take_add_one,hz,Option.toList_some,uF]
    generalize df (l.take j)=m at*
    cases zo
    ·repeat' (first|(refine ab ?_;intro K hK)|(refine hK _ ?_;clear hK K)|refine ax ?_|(refine aF ?_ ?_<;>intro hc<;>(try simp only[cS]at hc)<;>(try exact aG))|refine aX ?_|refine az ?_|(refine bT ?_;intro g)|((refine' bL ?zh ?_);(case zh=>exact bo rfl rfl iI iI (by first|rfl|(simp only[List.all_cons,List.all_nil, *];rfl)) rfl);intro g)|fail)
     exact⟨k - 1,_,by omega,⟨j+1,by omega,rfl⟩,cG,rfl,by rw[gK];simp only[Bool.false_eq_true,if_false];exact ah⟩
    ·repeat' (first|refine ae (id:=10) (.range 11) 10 [4,6,7] ?_|refine cL (id:=10) 8 13 (.range 11) 10 [4] ?_|(refine ab ?_;intro K hK)|(refine hK _ ?_;clear hK K)|refine ax ?_|(refine aF ?_ ?_<;>intro hc<;>(try simp only[cS]at hc)<;>(try exact aG))|refine aX ?_|refine az ?_|(refine bT ?_;intro g)|(refine bQ ?_;intro g)|((first|refine' bL ?zh ?_|refine' dP ?zh rfl rfl ?_);(case zh=>exact bo rfl rfl iI iI (by first|rfl|(simp only[List.all_cons,List.all_nil, *];rfl)) rfl);intro g)|fail)
     exact⟨k - 1,_,by omega,⟨j+1,by omega,rfl⟩,cG,rfl,by rw[gK];simp only[if_true];exact ah⟩
   ·obtain rfl:j=l.length:=by omega
    rw[List.take_of_length_le (Nat.le_refl _)]
    repeat' (first|(refine ab ?_;intro K hK)|(refine hK _ ?_;clear hK K)|refine ax ?_|(refine aF ?_ ?_<;>intro hc<;>(try simp only[cS]at hc)<;>(try exact aG))|refine aX ?_|refine az ?_|((refine' LQ ?zh rfl ?_);case zh=>intro F';exact bE rfl rfl iI)|(refine bQ ?_;intro g)|(refine ai (aa iI rfl p4 iI) rfl ?_;intro t2)|(refine ai (vv iI rfl p5) rfl ?_;intro u5))
    have es:Nd.bO self b now={Nd.blank self with seq:=if df l+1=0 then df l else df l+1,ls:=iV self (cC l),cd:=now+2000}:=by unfold Nd.bO;rw[if_pos JP,hj];rfl
    refine fJ (H':=aY 0 gn (Nd.bO self b now) ⟨t2,.slice none 0 0,r0,r1,.slice none 0 0,r2,r3,r4,cb.1,cb.2,.slice none 0 0,.slice none 0 0,.slice none 0 0,.slice none 0 0,[],[]⟩*(aK g0 35 [aZ [],.bool false,.slice none 0 0,.slice none 0 0,.slice none 0 0]*(X*G))) (by rw[es];refine Nw gn t2 r0 r1 r2 r3 r4 cb self (if df l+1=0 then df l else df l+1) (iV self (cC l)) (now+2000) ?_;rw[hR];simp only[aB];exact ah) ?_
    generalize (⟨t2,.slice none 0 0,r0,r1,.slice none 0 0,r2,r3,r4,cb.1,cb.2,.slice none 0 0,.slice none 0 0,.slice none 0 0,.slice none 0 0,[],[]⟩:NH)=h0
    have gG:=Nd.px self b now
    obtain⟨s0,sZ⟩:∃s0:Nd,s0=Nd.bO self b now:=⟨_,rfl⟩
    have en:Nd.new self b now=(s0.write ⟨true,0,if df l+1=0 then df l else df l+1⟩).note:=by unfold Nd.new;rw[sZ,es]
    rw[←sZ]at gG ⊢
    have Rm:s0.aI=[]:=by rw[sZ,es];rfl
    have P3:s0.out.ay=[]:=by rw[sZ,es];rfl
    have q1:=mq w0 0 gn s0 h0 ⟨true,0,if df l+1=0 then df l else df l+1⟩ (by rw[Rm];simp) (by rw[P3];simp)
    have q2:=fun vr=>nk w0 0 gn (s0.write ⟨true,0,if df l+1=0 then df l else df l+1⟩) {h0 with vr:=vr} (Nd.Room.write (k:=10) ⟨by rw[Rm];simp,by rw[P3];simp⟩ _) gG
    rw[←en]at q2
    obtain⟨s9,Ho⟩:∃s9:Nd,s9=Nd.new self b now:=⟨_,rfl⟩
    rw[←Ho]at q2
    simp only[aY,cw]at q1 q2 ⊢
    simp only[bb]at q1 q2 ⊢
    repeat' (first|(refine ab ?_;intro K hK)|(refine hK _ ?_;clear hK K)|refine ax ?_|refine az ?_|(refine bT ?_;intro g)|(refine bQ ?_;intro g)|refine mO (by kernel_rfl) ?_|(refine ai (aa iI rfl q1 iI) rfl ?_;intro v1;replace q2:=q2 v1)|(refine ai (aa iI rfl q2 iI) rfl ?_;intro v2))
    refine dF (.inl rfl) rfl (bh rfl) (aS rfl iI iI rfl) ⟨(gn,(h0.vf,h0.vc,h0.vd)),?_,?_⟩
    ·unfold Nd.gZ fp
     rw[←Ho]
     simp[JP]
    ·unfold Nd.gZ ei
     rw[←Ho,ad (jg _ _)]
     refine jc {h0 with vr:=v2,vf:= .slice none 0 0,vc:= .slice none 0 0,vd:= .slice none 0 0} dS.zero ?_
     have er:ba gn s9 {h0 with vr:=v2,vf:= .slice none 0 0,vc:= .slice none 0 0,vd:= .slice none 0 0}=ba gn s9 {h0 with vr:=v2}:=rfl
     rw[er]
     simp only[bb,dS.zero]
     exact ah
 ·repeat' (first|(refine ab ?_;intro K hK)|(refine hK _ ?_;clear hK K)|refine ax ?_|(refine aF ?_ ?_<;>intro hc<;>(try simp only[cS]at hc)<;>(try exact aG))|refine aX ?_|refine az ?_|(refine ai (ph iI) rfl ?_;intro g0)|(refine ai (rj rfl) rfl ?_;intro gn)|(refine ai (aa iI rfl p1 iI) rfl ?_;intro tb)|(refine ai (vv iI rfl p2) rfl ?_;intro cb)|(refine ai (ew u32 u32 (d:=some 18)) rfl ?_;intro r0)|(refine ai (ew u32 u32 (d:=some 20)) rfl ?_;intro r1)|(refine ai (ew u32 u32 (d:=some 21)) rfl ?_;intro r2)|(refine ai (ew u32 u32 (d:=some 22)) rfl ?_;intro r3)|(refine ai (ew u32 u32 (d:=some 23)) rfl ?_;intro r4))
  have es:Nd.bO self b now={Nd.blank self with seq:=1,ls:=[],cd:=0}:=by unfold Nd.bO;rw[if_neg JP];rfl
  refine fJ (H':=aY 0 gn (Nd.bO self b now) ⟨tb,.slice none 0 0,r0,r1,.slice none 0 0,r2,r3,r4,cb.1,cb.2,.slice none 0 0,.slice none 0 0,.slice none 0 0,.slice none 0 0,[],[]⟩*(aK g0 35 [aZ [],.bool false,.slice none 0 0,.slice none 0 0,.slice none 0 0]*(X*G))) (by rw[es];refine Nw gn tb r0 r1 r2 r3 r4 cb self (1) ([]) (0) ?_;have ez:(Value.int .u32 1:Value)=u32 1:=rfl;rw[ez];exact ah) ?_
  generalize (⟨tb,.slice none 0 0,r0,r1,.slice none 0 0,r2,r3,r4,cb.1,cb.2,.slice none 0 0,.slice none 0 0,.slice none 0 0,.slice none 0 0,[],[]⟩:NH)=h0
  have gG:=Nd.px self b now
  obtain⟨s0,sZ⟩:∃s0:Nd,s0=Nd.bO self b now:=⟨_,rfl⟩
  have en:Nd.new self b now=(s0.write ⟨true,0,1⟩).note:=by unfold Nd.new;rw[sZ,es]
  rw[←sZ]at gG ⊢
  have Rm:s0.aI=[]:=by rw[sZ,es];rfl
  have P3:s0.out.ay=[]:=by rw[sZ,es];rfl
  have q1:=mq w0 0 gn s0 h0 ⟨true,0,1⟩ (by rw[Rm];simp) (by rw[P3];simp)
  have q2:=fun vr=>nk w0 0 gn (s0.write ⟨true,0,1⟩) {h0 with vr:=vr} (Nd.Room.write (k:=10) ⟨by rw[Rm];simp,by rw[P3];simp⟩ _) gG
  rw[←en]at q2
  obtain⟨s9,Ho⟩:∃s9:Nd,s9=Nd.new self b now:=⟨_,rfl⟩
  rw[←Ho]at q2
  simp only[aY,cw]at q1 q2 ⊢
  simp only[bb]at q1 q2 ⊢
  repeat' (first|(refine ab ?_;intro K hK)|(refine hK _ ?_;clear hK K)|refine ax ?_|refine az ?_|(refine bT ?_;intro g)|(refine bQ ?_;intro g)|refine mO (by kernel_rfl) ?_|(refine ai (aa iI rfl q1 iI) rfl ?_;intro v1;replace q2:=q2 v1)|(refine ai (aa iI rfl q2 iI) rfl ?_;intro v2))
  refine dF (.inl rfl) rfl (bh rfl) (aS rfl iI iI rfl) ⟨(gn,(h0.vf,h0.vc,h0.vd)),?_,?_⟩
  ·unfold Nd.gZ fp
   rw[←Ho]
   simp[JP]
  ·unfold Nd.gZ ei
   rw[←Ho,ad (jg _ _)]
   refine jc {h0 with vr:=v2,vf:= .slice none 0 0,vc:= .slice none 0 0,vd:= .slice none 0 0} dS.zero ?_
   have er:ba gn s9 {h0 with vr:=v2,vf:= .slice none 0 0,vc:= .slice none 0 0,vd:= .slice none 0 0}=ba gn s9 {h0 with vr:=v2}:=rfl
   rw[er]
   simp only[bb,dS.zero]
   exact ah
end
section
open Go.RowKit
theorem Qw {P:Program} {n:fT} {w0:World} {c:Code} {Q:Exit→St→Prop} {σ:St} (h:∀w,Sat w0 w σ.H→WS P n w0 c Q σ):WS P n w0 c Q σ:=fun a w g=>h w g.sat a w g
attribute [local irreducible] WS LS cD eM cn cv Spec bA iR iQ aK AS
variable (w0:World)
instance Qm {w0:World} {H:af} {v:Value} {α:Type} {size:Nat} {f:α→List Value} {b:α} {l:List α} [h:eX w0 H v α size f (b::l)]:eX w0 H (cq size v 1) α size f l:=⟨fun w hs=>(h.at_ w hs).tail 1⟩
instance:DC Tryz.prog 20:=⟨by kernel_rfl⟩
section rules
variable {w0:World} {n:fT} {E:Env} {D:List Deferred} {H F:af} {ops:Array Oper} {ol:List Oper} {Q:Exit→St→Prop} {d:Nat} {xs:List Operand} {ts:Array TypeId} {ty:TypeId} {pos:String} {after:Array Edge} {g:Nat} {v:Value} {b:UInt8} {l:List UInt8}
theorem kz (hx:E.mU xs=some [ptr g 0]) (hl:cZ H g 176 [v] F) (hX:eX w0 F v UInt8 1 bU (b::l)) (hd:Nat.blt d n.tmps=true) (h:LS Tryz.prog n w0 ops Q ol ⟨(d,.int .i64 (b.toNat:Int))::E,D,aK g 176 [cq 1 v 1]*F⟩):LS Tryz.prog n w0 ops Q (⟨some d,.call ⟨.value (.func 71),xs.toArray,ts⟩,ty,pos,after,none⟩::ol) ⟨E,D,H⟩:=by
 refine ai (vA iI hx (R0 w0 (b::l) v g F (by simp)) (hl.eq.trans bl.symm)) hd fun u=> ?_
 rw[bl]
 exact h
theorem IQ (hx:E.mU xs=some [ptr g 0]) (hl:cZ H g 176 [v] F) (hX:eX w0 F v UInt8 1 bU []) (h:Q (.panic brk) ⟨E,D,aK g 176 [v]*F⟩):LS Tryz.prog n w0 ops Q (⟨some d,.call ⟨.value (.func 71),xs.toArray,ts⟩,ty,pos,after,none⟩::ol) ⟨E,D,H⟩:=by
 refine lG iI hx (RZ w0 [] v g F (by simp)) ⟨hl.eq.trans bl.symm⟩ ?_
 rw[bl];exact h
theorem vF (hx:E.mU xs=some [ptr g 0]) (hl:cZ H g 176 [v] F) (hX:eX w0 F v UInt8 1 bU l) (hd:Nat.blt d n.tmps=true) (h1:4≤l.length→LS Tryz.prog n w0 ops Q ol ⟨(d,u32 (bm l 0))::E,D,aK g 176 [cq 1 v 4]*F⟩) (h2:l.length<4→Q (.panic brk) ⟨E,D,aK g 176 [v]*F⟩):LS Tryz.prog n w0 ops Q (⟨some d,.call ⟨.value (.func 73),xs.toArray,ts⟩,ty,pos,after,none⟩::ol) ⟨E,D,H⟩:=by
 rcases Nat.lt_or_ge l.length 4 with hk|hk
 ·refine lG iI hx (Ed w0 l v g F hk) ⟨hl.eq.trans bl.symm⟩ ?_
  rw[bl];exact h2 hk
 ·refine ai (vA iI hx (AF w0 l v g F hk) (hl.eq.trans bl.symm)) hd fun u=> ?_
  rw[bl]
  exact h1 hk
theorem LM {k:Nat} {x:Int} (hx:E.mU xs=some [ptr g 0,.int .i64 x]) (hk:fB x k) (hl:cZ H g 176 [v] F) (hX:eX w0 F v UInt8 1 bU l) (hd:Nat.blt d n.tmps=true) (h1:k≤l.length→LS Tryz.prog n w0 ops Q ol ⟨(d,di v k)::E,D,aK g 176 [cq 1 v k]*F⟩) (h2:l.length<k→Q (.panic brk) ⟨E,D,aK g 176 [v]*F⟩):LS Tryz.prog n w0 ops Q (⟨some d,.call ⟨.value (.func 74),xs.toArray,ts⟩,ty,pos,after,none⟩::ol) ⟨E,D,H⟩:=by
 rcases Nat.lt_or_ge l.length k with P5|P5
 ·refine lG iI hx (Fj w0 l v g F k x hk.eq P5) ⟨hl.eq.trans bl.symm⟩ ?_
  rw[bl];exact h2 P5
 ·refine ai (vA iI hx (Fk w0 l v g F k x hk.eq P5) (hl.eq.trans bl.symm)) hd fun u=> ?_
  rw[bl]
  exact h1 P5
theorem kW {b:Bool} (hx:E.mU xs=some [.bool b]) (hd:Nat.blt d n.tmps=true) (h1:b=true→LS Tryz.prog n w0 ops Q ol ⟨(d,.tuple #[])::E,D,H⟩) (h2:b=false→Q (.panic brk) ⟨E,D,H⟩):LS Tryz.prog n w0 ops Q (⟨some d,.call ⟨.value (.func 72),xs.toArray,ts⟩,ty,pos,after,none⟩::ol) ⟨E,D,H⟩:=by
 cases b with
 |false=>
  refine lG iI hx (Ku w0) ⟨aB.symm⟩ ?_
  rw[aB];exact h2 rfl
 |true=>
  refine ai (vA iI hx (Kv w0) aB.symm) hd fun u=> ?_
  rw[aB]
  exact h1 rfl
theorem iv {t:Tmp} {f:FuncId} {im args:List Value} (hn:n.round=none) (ht:E.get t=some (.func (.func f) #[] im.toArray)) (eB:E.mU xs=some args)
 (h:LS Tryz.prog n w0 ops Q ol ⟨E,⟨.fn (.func f) im.toArray,args.toArray⟩::D,H⟩):LS Tryz.prog n w0 ops Q (⟨none,.defer ⟨.value (.tmp t),xs.toArray,ts⟩,ty,pos,after,none⟩::ol) ⟨E,D,H⟩:=GH (d:=none) hn rfl ht eB h
theorem jb {α:Type} {size:Nat} {f:α→List Value} {l:List α} {c:Code} (v:Value) (hl:eX w0 H v α size f l) (h:∀A cap,v= .slice A l.length cap→WS Tryz.prog n w0 c Q ⟨E,D,H⟩):WS Tryz.prog n w0 c Q ⟨E,D,H⟩:=Qw fun w hs=>by
 obtain⟨A,cap,e,_⟩:=(hl.at_ w hs).form
 exact h A cap e
end rules
def Pk.zero:Pk:=⟨0,0,0,false,0,0,0,0,0,0,[],[]⟩
section out
variable {w0:World} {m:fT} {E:Env} {H F Y:af} {R:Value→af→Prop} {p q:Nat} {cs bs:List Value}
theorem L9 {K:FrameMode→af→Prop} (hl:cZ H p 44 cs F) (yz:cZ F q 4 bs Y) (zm:cs.length=12) (Ll:bs.length=1) (h:K (.panicking [{v:= .iface 232 (.agg #[]),recovered:=true}]) (aK p 44 (Pk.zero.cells (.slice none 0 0))*(aK q 4 [.bool false]*Y))):
 iQ Tryz.prog w0 70 [ptr p 0,ptr q 0] (.panicking brk) H K:=by
 obtain⟨c0,c1,c2,c3,c4,c5,c6,c7,c8,c9,PU,PV,rfl⟩:∃c0 c1 c2 c3 c4 c5 c6 c7 c8 c9 PU PV,cs=[c0,c1,c2,c3,c4,c5,c6,c7,c8,c9,PU,PV]:=by
  match cs,zm with
  |[c0,c1,c2,c3,c4,c5,c6,c7,c8,c9,PU,PV],_=>exact⟨_,_,_,_,_,_,_,_,_,_,_,_,rfl⟩
 obtain⟨b0,rfl⟩:∃b0,bs=[b0]:=by
  match bs,Ll with
  |[b0],_=>exact⟨_,rfl⟩
 refine iQ.JH Tryz.func70 rfl Tryz.ntmps70 rfl rfl rfl (bE (v:= .iface 232 (.agg #[])) (u:= .nilIface) (r:= .bool true) rfl rfl iI) ?_
 simp only[aN,ox,brk]
 have e:H=aK p 44 [c0,c1,c2,c3,c4,c5,c6,c7,c8,c9,PU,PV]*(aK q 4 [b0]*Y):=by rw[hl.eq,yz.eq]
 rw[e]
 repeat' (first|refine ax ?_|(refine aF ?_ ?_<;>intro hc<;>(try simp only[cS]at hc)<;>(try exact aG))|refine az ?_|(refine bQ ?_;intro g))
 refine aj (.inr rfl) rfl ?_
 have e2:∀A B C:af,B*(A*C)=A*(B*C):=fun A B C=>aM _ _ _
 simpa only[e2,Pk.zero,Pk.cells]using h
theorem Ma {K:FrameMode→af→Prop} (h:K .returning H):iQ Tryz.prog w0 70 [ptr p 0,ptr q 0] .returning H K:=by
 refine iQ.JH Tryz.func70 rfl Tryz.ntmps70 rfl rfl rfl (GK rfl iI) ?_
 simp only[aN,ox]
 repeat' (first|refine ax ?_|(refine aF ?_ ?_<;>intro hc<;>(try simp only[cS]at hc)<;>(try exact aG)))
 exact aj (.inr rfl) rfl h
theorem jm (h2:E.get 2=some (ptr p 0)) (h3:E.get 3=some (ptr q 0)) (hl:cZ H p 44 cs F) (yz:cZ F q 4 bs Y) (zm:cs.length=12) (Ll:bs.length=1)
 (hR:R (.tuple #[Pk.zero.val (.slice none 0 0),.bool false]) (aK p 44 (Pk.zero.cells (.slice none 0 0))*(aK q 4 [.bool false]*Y))):
 KH Tryz.prog m w0 Tryz.f35 R (.panic brk) ⟨E,[⟨.fn (.func 70) ([ptr p 0,ptr q 0]:List Value).toArray,([]:List Value).toArray⟩],H⟩:=
 R2 (pH (im:=[ptr p 0,ptr q 0]) (args:=[]) (by simp) iI (L9 hl yz zm Ll (Gb rfl (aS h2 iI iI rfl) (BF h3 iI iI rfl) hR)))
theorem xR {vs:List Value} (h2:E.get 2=some (ptr p 0)) (h3:E.get 3=some (ptr q 0)) (hl:cZ H p 44 cs F) (yz:cZ H q 4 [.bool true] Y) (zm:Dq cs 0 12=some vs)
 (hR:R (.tuple #[.agg vs.toArray,.bool true]) H):
 KH Tryz.prog m w0 Tryz.f35 R .ret ⟨E,[⟨.fn (.func 70) ([ptr p 0,ptr q 0]:List Value).toArray,([]:List Value).toArray⟩],H⟩:=
 sx (pH (im:=[ptr p 0,ptr q 0]) (args:=[]) (by simp) iI (Ma (Gb rfl (aS h2 hl iI zm) (BF h3 yz iI rfl) hR)))
end out
def j6 (l:List UInt8) (v':Value):Value:= .tuple #[((Pk.dec l).getD Pk.zero).val v',.bool (Pk.dec l).isSome]
abbrev ey (l:List UInt8) (v':Value) (X:af):af:=rows 180 2 bB v' ((Pk.dec l).getD Pk.zero).lost*X
theorem yZ (l:List UInt8) (h:l.length<5):Pk.dec l=none:=by
 match l,h with
 |[],_=>rfl
 |[_],_=>rfl
 |[_,_],_=>rfl
 |[_,_,_],_=>rfl
 |[_,_,_,_],_=>rfl
 |_::_::_::_::_::_,h=>simp at h;omega
theorem yO (l:List UInt8) (hl:l.length<5) (v:Value) (X:af) [hX:eX w0 X v UInt8 1 bU l]:Spec Tryz.prog w0 35 [v] X (fun v':Value=>j6 l v') (fun v'=>ey l v' X):=by
 have hd:=yZ l hl
 simp only[j6,ey,hd]
 refine Spec.jr Tryz.func35 rfl Tryz.ntmps35 rfl fun G=> ?_
 simp only[aN]
 refine jb v (iI:eX w0 (X*G) v UInt8 1 bU l) fun A cap hv=> ?_
 subst hv
 iterate 5
  rcases l with _|⟨a,l⟩
  ·repeat' (first|(refine ab ?_;intro K hK)|(refine hK _ ?_;clear hK K)|refine ax ?_|(refine aF ?_ ?_<;>intro hc<;>(try simp only[cS]at hc)<;>(try exact aG))|refine aX ?_|refine az ?_|((first|refine dn rfl rfl iI rfl ?_ ?_|refine dm rfl rfl iI rfl ?_ ?_|refine dU rfl rfl iI rfl ?_ ?_)<;>intro hc)|(refine bT ?_;intro g)|(refine bQ ?_;intro g)|refine iv rfl rfl rfl ?_|refine IQ rfl iI iI ?_|(refine kz rfl iI iI rfl ?_)|(refine kW rfl rfl ?_ ?_<;>(intro hc;first|(cases hc;done)|skip))|refine ij ?_)
   all_goals
    refine jm rfl rfl iI iI rfl rfl ?_
    exact⟨.slice none 0 0,rfl,ah⟩
 simp at hl;omega
end
section
open Go.RowKit
attribute [local irreducible] WS LS cD eM cn cv Spec bA iR iQ aK AS cq di
variable (w0:World)
theorem cI (l:List UInt8) (k i:Nat):bm (l.drop k) i=bm l (k+i):=by
 simp[bm,dW,Nat.add_assoc]
theorem dk {b:UInt8} {m:Nat} (h:b.toNat=m) (hm:m<256):b=UInt8.ofNat m:=by
 apply UInt8.toNat_inj.1;rw[h];simp;omega
theorem sS (t k f z n:UInt8) (l:List UInt8) (hl:l.length≤100000) (hd:Pk.dec (t::k::f::z::n::l)=none) (hb:z.toNat≠0∨(z.toNat=0∧t.toNat=0)∨(z.toNat=0∧0<t.toNat∧f.toNat≠0∧f.toNat≠8)∨(z.toNat=0∧0<t.toNat∧f.toNat=8∧k.toNat≠1)) (v:Value) (X:af) [hX:eX w0 X v UInt8 1 bU (t::k::f::z::n::l)]:Spec Tryz.prog w0 35 [v] X (fun v':Value=>j6 (t::k::f::z::n::l) v') (fun v'=>ey (t::k::f::z::n::l) v' X):=by
 simp only[j6,ey,hd]
 refine Spec.jr Tryz.func35 rfl Tryz.ntmps35 rfl fun G=> ?_
 simp only[aN]
 refine jb v (iI:eX w0 (X*G) v UInt8 1 bU (t::k::f::z::n::l)) fun A cap hv=> ?_
 subst hv
 rcases hb with h1|⟨h1,h2⟩|⟨h1,h2,h3,h4⟩|⟨h1,h2,h3,h4⟩
 all_goals
  repeat' (first|(refine ab ?_;intro K hK)|(refine hK _ ?_;clear hK K)|refine ax ?_|(refine aF ?_ ?_<;>intro hc<;>(try simp only[cS]at hc)<;>(try exact aG))|refine aX ?_|refine az ?_|(refine bT ?_;intro g)|(refine bQ ?_;intro g)|refine iv rfl rfl rfl ?_|(refine kz rfl iI iI rfl ?_)|(refine kW rfl rfl ?_ ?_<;>(intro hc;first|(cases hc;done)|skip))|with_reducible refine ij ?_)
 all_goals
  refine jm rfl rfl iI iI rfl rfl ?_
  exact⟨.slice none 0 0,rfl,ah⟩
theorem Fo (t k f z n:UInt8) (l:List UInt8) (hl:l.length≤100000) (hd:Pk.dec (t::k::f::z::n::l)=none) (hz:z.toNat=0) (ht:0<t.toNat) (hf:f.toNat=0) (h1:k.toNat≠1) (h2:k.toNat≠2) (h3:k.toNat≠3) (h9:k.toNat≠9) (v:Value) (X:af) [hX:eX w0 X v UInt8 1 bU (t::k::f::z::n::l)]:Spec Tryz.prog w0 35 [v] X (fun v':Value=>j6 (t::k::f::z::n::l) v') (fun v'=>ey (t::k::f::z::n::l) v' X):=by
 simp only[j6,ey,hd]
 refine Spec.jr Tryz.func35 rfl Tryz.ntmps35 rfl fun G=> ?_
 simp only[aN]
 refine jb v (iI:eX w0 (X*G) v UInt8 1 bU (t::k::f::z::n::l)) fun A cap hv=> ?_
 subst hv
 repeat' (first|(refine ab ?_;intro K hK)|(refine hK _ ?_;clear hK K)|refine ax ?_|(refine aF ?_ ?_<;>intro hc<;>(try simp only[cS]at hc)<;>(try exact aG))|refine aX ?_|refine az ?_|(refine bT ?_;intro g)|(refine bQ ?_;intro g)|refine iv rfl rfl rfl ?_|(refine kz rfl iI iI rfl ?_)|(refine kW rfl rfl ?_ ?_<;>(intro hc;first|(cases hc;done)|skip))|with_reducible refine ij ?_|with_reducible refine kH ?_)
 all_goals
  refine jm rfl rfl iI iI rfl rfl ?_
  exact⟨.slice none 0 0,rfl,ah⟩
theorem PM (t k f z n:UInt8) (l:List UInt8) (hl:l.length≤100000) (hz:z.toNat=0) (ht:0<t.toNat) (hf:f.toNat=0) (h2:k.toNat=2) (v:Value) (X:af) [hX:eX w0 X v UInt8 1 bU (t::k::f::z::n::l)]:Spec Tryz.prog w0 35 [v] X (fun v':Value=>j6 (t::k::f::z::n::l) v') (fun v'=>ey (t::k::f::z::n::l) v' X):=by
 have Cc:Pk.dec (t::k::f::z::n::l)=if l.length=16 then some ⟨t.toNat,2,n.toNat,false,0,bm l 0,bm l 4,bm l 8,0,bm l 12,[],[]⟩else none:=by
  obtain rfl:=dk h2 (by decide);obtain rfl:=dk hz (by decide);obtain rfl:=dk hf (by decide)
  have xq:t≠0:=fun e=>by rw[e]at ht;simp at ht
  simp[Pk.dec,Pk.body,xq]
 refine Spec.jr Tryz.func35 rfl Tryz.ntmps35 rfl fun G=> ?_
 simp only[aN]
 refine jb v (iI:eX w0 (X*G) v UInt8 1 bU (t::k::f::z::n::l)) fun A cap hv=> ?_
 subst hv
 repeat' (first|(refine ab ?_;intro K hK)|(refine hK _ ?_;clear hK K)|refine ax ?_|(refine aF ?_ ?_<;>intro hc<;>(try simp only[cS]at hc)<;>(try exact aG))|refine aX ?_|refine az ?_|((first|refine dn rfl rfl iI rfl ?_ ?_|refine dm rfl rfl iI rfl ?_ ?_|refine dU rfl rfl iI rfl ?_ ?_)<;>intro hc)|(refine bT ?_;intro g)|(refine bQ ?_;intro g)|refine iv rfl rfl rfl ?_|(refine kz rfl iI iI rfl ?_)|(refine vF rfl iI iI rfl ?_ ?_<;>(intro hc;try simp only[List.length_drop]at hc))|(refine kW rfl rfl ?_ ?_<;>(intro hc;first|(cases hc;done)|skip))|with_reducible refine ij ?_|with_reducible refine kH ?_)
 all_goals
  first
  |(have hd:Pk.dec (t::k::f::z::n::l)=none:=by
     rw[Cc,if_neg]
     first|((try simp only[List.length_drop]at*);omega)|(intro AI;simp_all [cI];done)
    refine jm rfl rfl iI iI rfl rfl ?_
    simp only[j6,ey,hd]
    exact⟨.slice none 0 0,rfl,ah⟩)
  |(have hd:=Cc.trans (if_pos (by first|((try simp only[List.length_drop]at*);omega)|(refine⟨by(try simp only[List.length_drop]at*);omega,?_⟩;simp_all [cI];done)))
    refine xR rfl rfl iI iI rfl ?_
    simp only[j6,ey,hd,Option.getD_some,Option.isSome_some]
    exact⟨.slice none 0 0,by simp[Pk.val,Pk.cells,cI,h2, *],ah⟩)
theorem MW (t k f z n:UInt8) (l:List UInt8) (hl:l.length≤100000) (hz:z.toNat=0) (ht:0<t.toNat) (hf:f.toNat=0) (h2:k.toNat=1) (v:Value) (X:af) [hX:eX w0 X v UInt8 1 bU (t::k::f::z::n::l)]:Spec Tryz.prog w0 35 [v] X (fun v':Value=>j6 (t::k::f::z::n::l) v') (fun v'=>ey (t::k::f::z::n::l) v' X):=by
 have Cc:Pk.dec (t::k::f::z::n::l)=if l.length=20 then some ⟨t.toNat,1,n.toNat,false,bm l 0,bm l 4,bm l 8,bm l 12,bm l 16,0,[],[]⟩else none:=by
  obtain rfl:=dk h2 (by decide);obtain rfl:=dk hz (by decide);obtain rfl:=dk hf (by decide)
  have xq:t≠0:=fun e=>by rw[e]at ht;simp at ht
  simp[Pk.dec,Pk.body,xq]
 refine Spec.jr Tryz.func35 rfl Tryz.ntmps35 rfl fun G=> ?_
 simp only[aN]
 refine jb v (iI:eX w0 (X*G) v UInt8 1 bU (t::k::f::z::n::l)) fun A cap hv=> ?_
 subst hv
 repeat' (first|(refine ab ?_;intro K hK)|(refine hK _ ?_;clear hK K)|refine ax ?_|(refine aF ?_ ?_<;>intro hc<;>(try simp only[cS]at hc)<;>(try exact aG))|refine aX ?_|refine az ?_|((first|refine dn rfl rfl iI rfl ?_ ?_|refine dm rfl rfl iI rfl ?_ ?_|refine dU rfl rfl iI rfl ?_ ?_)<;>intro hc)|(refine bT ?_;intro g)|(refine bQ ?_;intro g)|refine iv rfl rfl rfl ?_|(refine kz rfl iI iI rfl ?_)|(refine vF rfl iI iI rfl ?_ ?_<;>(intro hc;try simp only[List.length_drop]at hc))|(refine kW rfl rfl ?_ ?_<;>(intro hc;first|(cases hc;done)|skip))|with_reducible refine ij ?_|with_reducible refine kH ?_)
 all_goals
  first
  |(have hd:Pk.dec (t::k::f::z::n::l)=none:=by
     rw[Cc,if_neg]
     first|((try simp only[List.length_drop]at*);omega)|(intro AI;simp_all [cI];done)
    refine jm rfl rfl iI iI rfl rfl ?_
    simp only[j6,ey,hd]
    exact⟨.slice none 0 0,rfl,ah⟩)
  |(have hd:=Cc.trans (if_pos (by first|((try simp only[List.length_drop]at*);omega)|(refine⟨by(try simp only[List.length_drop]at*);omega,?_⟩;simp_all [cI];done)))
    refine xR rfl rfl iI iI rfl ?_
    simp only[j6,ey,hd,Option.getD_some,Option.isSome_some]
    exact⟨.slice none 0 0,by simp[Pk.val,Pk.cells,cI,h2, *],ah⟩)
end
section
open Go.RowKit
attribute [local irreducible] WS LS cD eM cn cv Spec bA iR iQ aK AS cq di
variable (w0:World)
theorem MX (t k f z n:UInt8) (l:List UInt8) (hl:l.length≤100000) (hz:z.toNat=0) (ht:0<t.toNat) (hf:f.toNat=8) (h2:k.toNat=1) (v:Value) (X:af) [hX:eX w0 X v UInt8 1 bU (t::k::f::z::n::l)]:Spec Tryz.prog w0 35 [v] X (fun v':Value=>j6 (t::k::f::z::n::l) v') (fun v'=>ey (t::k::f::z::n::l) v' X):=by
 have Cc:Pk.dec (t::k::f::z::n::l)=if l.length=20∧bm l 8=0 then some ⟨t.toNat,1,n.toNat,true,bm l 0,bm l 4,bm l 8,bm l 12,bm l 16,0,[],[]⟩else none:=by
  obtain rfl:=dk h2 (by decide);obtain rfl:=dk hz (by decide);obtain rfl:=dk hf (by decide)
  have xq:t≠0:=fun e=>by rw[e]at ht;simp at ht
  simp[Pk.dec,Pk.body,xq]
 refine Spec.jr Tryz.func35 rfl Tryz.ntmps35 rfl fun G=> ?_
 simp only[aN]
 refine jb v (iI:eX w0 (X*G) v UInt8 1 bU (t::k::f::z::n::l)) fun A cap hv=> ?_
 subst hv
 repeat' (first|(refine ab ?_;intro K hK)|(refine hK _ ?_;clear hK K)|refine ax ?_|(refine aF ?_ ?_<;>intro hc<;>(try simp only[cS]at hc)<;>(try exact aG))|refine aX ?_|refine az ?_|((first|refine dn rfl rfl iI rfl ?_ ?_|refine dm rfl rfl iI rfl ?_ ?_|refine dU rfl rfl iI rfl ?_ ?_)<;>intro hc)|(refine bT ?_;intro g)|(refine bQ ?_;intro g)|refine iv rfl rfl rfl ?_|(refine kz rfl iI iI rfl ?_)|(refine vF rfl iI iI rfl ?_ ?_<;>(intro hc;try simp only[List.length_drop]at hc))|(refine kW rfl rfl ?_ ?_<;>(intro hc;first|(cases hc;done)|skip))|with_reducible refine ij ?_|with_reducible refine kH ?_)
 all_goals
  first
  |(have hd:Pk.dec (t::k::f::z::n::l)=none:=by
     rw[Cc,if_neg]
     first|((try simp only[List.length_drop]at*);omega)|(intro AI;simp_all [cI];done)
    refine jm rfl rfl iI iI rfl rfl ?_
    simp only[j6,ey,hd]
    exact⟨.slice none 0 0,rfl,ah⟩)
  |(have hd:=Cc.trans (if_pos (by first|((try simp only[List.length_drop]at*);omega)|(refine⟨by(try simp only[List.length_drop]at*);omega,?_⟩;simp_all [cI];done)))
    refine xR rfl rfl iI iI rfl ?_
    simp only[j6,ey,hd,Option.getD_some,Option.isSome_some]
    exact⟨.slice none 0 0,by simp[Pk.val,Pk.cells,cI,h2, *],ah⟩)
theorem PO (t k f z n:UInt8) (l:List UInt8) (hl:l.length≤100000) (hz:z.toNat=0) (ht:0<t.toNat) (hf:f.toNat=0) (h2:k.toNat=9) (v:Value) (X:af) [hX:eX w0 X v UInt8 1 bU (t::k::f::z::n::l)]:Spec Tryz.prog w0 35 [v] X (fun v':Value=>j6 (t::k::f::z::n::l) v') (fun v'=>ey (t::k::f::z::n::l) v' X):=by
 have Cc:Pk.dec (t::k::f::z::n::l)=if n.toNat≤16∧l.length=12+n.toNat then some ⟨t.toNat,9,0,false,bm l 0,bm l 4,0,bm l 8,0,0,[],l.drop 12⟩else none:=by
  obtain rfl:=dk h2 (by decide);obtain rfl:=dk hz (by decide);obtain rfl:=dk hf (by decide)
  have xq:t≠0:=fun e=>by rw[e]at ht;simp at ht
  simp[Pk.dec,Pk.body,xq]
 refine Spec.jr Tryz.func35 rfl Tryz.ntmps35 rfl fun G=> ?_
 simp only[aN]
 refine jb v (iI:eX w0 (X*G) v UInt8 1 bU (t::k::f::z::n::l)) fun A cap hv=> ?_
 subst hv
 repeat' (first|(refine ab ?_;intro K hK)|(refine hK _ ?_;clear hK K)|refine ax ?_|(refine aF ?_ ?_<;>intro hc<;>(try simp only[cS]at hc)<;>(try exact aG))|refine aX ?_|refine az ?_|((refine' LQ ?zh rfl ?_);case zh=>intro F';exact kY rfl iI rfl iI iI iI)|((first|refine dn rfl rfl iI rfl ?_ ?_|refine dm rfl rfl iI rfl ?_ ?_|refine dU rfl rfl iI rfl ?_ ?_)<;>intro hc)|(refine bT ?_;intro g)|(refine bQ ?_;intro g)|refine iv rfl rfl rfl ?_|(refine kz rfl iI iI rfl ?_)|(refine vF rfl iI iI rfl ?_ ?_<;>(intro hc;try simp only[List.length_drop]at hc))|(refine LM rfl iI iI iI rfl ?_ ?_<;>(intro hc;try simp only[List.length_drop]at hc))|(refine kW rfl rfl ?_ ?_<;>(intro hc;first|(cases hc;done)|skip))|with_reducible refine ij ?_|with_reducible refine kH ?_)
 all_goals
  first
  |(have hd:Pk.dec (t::k::f::z::n::l)=none:=by
     rw[Cc,if_neg]
     first|((try simp only[List.length_drop]at*);omega)|(intro AI;simp_all [cI];done)
    refine jm rfl rfl iI iI rfl rfl ?_
    simp only[j6,ey,hd]
    exact⟨.slice none 0 0,rfl,ah⟩)
  |(have hd:=Cc.trans (if_pos (by first|((try simp only[List.length_drop]at*);omega)|(refine⟨by(try simp only[List.length_drop]at*);omega,?_⟩;simp_all [cI];done)))
    have VD:(l.drop 12).take n.toNat=l.drop 12:=List.take_of_length_le (by(try simp only[List.length_drop]at*);omega)
    refine xR rfl rfl iI iI rfl ?_
    simp only[j6,ey,hd,Option.getD_some,Option.isSome_some]
    exact⟨.slice none 0 0,by simp[Pk.val,Pk.cells,cI,h2, *],ah⟩)
end
section
open Go.RowKit
attribute [local irreducible] WS LS cD eM cn cv Spec bA iR iQ aK AS cq di
variable (w0:World)
theorem PN (t k f z n:UInt8) (l:List UInt8) (hl:l.length≤100000) (hz:z.toNat=0) (ht:0<t.toNat) (hf:f.toNat=0) (h2:k.toNat=3) (v:Value) (X:af) [hX:eX w0 X v UInt8 1 bU (t::k::f::z::n::l)]:Spec Tryz.prog w0 35 [v] X (fun v':Value=>j6 (t::k::f::z::n::l) v') (fun v'=>ey (t::k::f::z::n::l) v' X):=by
 have Cc:Pk.dec (t::k::f::z::n::l)=if 1≤n.toNat∧n.toNat≤8∧l.length=8*n.toNat then some ⟨t.toNat,3,0,false,0,0,0,0,0,0,dZ l n.toNat,[]⟩else none:=by
  obtain rfl:=dk h2 (by decide);obtain rfl:=dk hz (by decide);obtain rfl:=dk hf (by decide)
  have xq:t≠0:=fun e=>by rw[e]at ht;simp at ht
  simp[Pk.dec,Pk.body,xq]
 refine Spec.jr Tryz.func35 rfl Tryz.ntmps35 rfl fun G=> ?_
 simp only[aN]
 refine jb v (iI:eX w0 (X*G) v UInt8 1 bU (t::k::f::z::n::l)) fun A cap hv=> ?_
 subst hv
 repeat' (first|(refine ab ?_;intro K hK)|(refine hK _ ?_;clear hK K)|refine ax ?_|(refine aF ?_ ?_<;>intro hc<;>(try simp only[cS]at hc)<;>(try exact aG))|refine aX ?_|refine az ?_|((first|refine dn rfl rfl iI rfl ?_ ?_|refine dm rfl rfl iI rfl ?_ ?_|refine dU rfl rfl iI rfl ?_ ?_)<;>intro hc)|(refine bT ?_;intro g)|(refine bQ ?_;intro g)|refine iv rfl rfl rfl ?_|(refine kz rfl iI iI rfl ?_)|(refine kW rfl rfl ?_ ?_<;>(intro hc;first|(cases hc;done)|skip))|with_reducible refine ij ?_|with_reducible refine kH ?_)
 rotate_left
 ·have hd:Pk.dec (t::k::f::z::n::l)=none:=by rw[Cc,if_neg];omega
  refine jm rfl rfl iI iI rfl rfl ?_
  simp only[j6,ey,hd]
  exact⟨.slice none 0 0,rfl,ah⟩
 ·have hd:Pk.dec (t::k::f::z::n::l)=none:=by rw[Cc,if_neg];omega
  refine jm rfl rfl iI iI rfl rfl ?_
  simp only[j6,ey,hd]
  exact⟨.slice none 0 0,rfl,ah⟩
 rename_i p q gg u1 u2 Mk OP X0
 refine aV (fun m τ=>∃(i:Nat) (v' vl:Value),i+m=n.toNat∧8*i≤l.length∧eX w0 X v' UInt8 1 bU (l.drop (8*i))∧τ=⟨[(103,.int .i64 (i:Int)),(102,.int .i64 (n.toNat:Int)),(2,ptr p 0),(3,ptr q 0),(4,ptr gg 0)],[⟨.fn (.func 70) ([ptr p 0,ptr q 0]:List Value).toArray,([]:List Value).toArray⟩],rows 180 2 bB vl (dZ l i)*(aK gg 176 [v']*(aK p 44 [.int .i64 (t.toNat:Int),.int .i64 (k.toNat:Int),.int .i64 0,.bool false,u32 0,u32 0,u32 0,u32 0,u32 0,u32 0,vl,aZ []]*(aK q 4 [.bool false]*(X*G))))⟩) ?_ ?_
 ·refine⟨n.toNat,_,⟨0,_,.slice none 0 0,by omega,by omega,(iI:eX w0 X (cq 1 (cq 1 (cq 1 (cq 1 (cq 1 (.slice A (t::k::f::z::n::l).length cap) 1) 1) 1) 1) 1) UInt8 1 bU l),rfl⟩,cG,rfl,?_⟩
  refine aq.Pu ?_
  exact ah
 ·rintro m τ ⟨i,v',vl,P2,Y8,hR,rfl⟩
  have El:(l.drop (8*i)).length=l.length - 8*i:=by simp
  have Xx:((l.drop (8*i)).drop 4).length=l.length - 8*i - 4:=by simp;omega
  rcases Nat.lt_or_ge i n.toNat with bW|kQ
  ·rcases Nat.lt_or_ge (l.length - 8*i) 8 with h8|h8
   ·have hd:Pk.dec (t::k::f::z::n::l)=none:=by rw[Cc,if_neg];omega
    rcases Nat.lt_or_ge (l.length - 8*i) 4 with h4|h4
    ·have hx:=Ed w0 (l.drop (8*i)) v' gg X (by omega)
     repeat' (first|(refine ab ?_;intro K hK)|(refine hK _ ?_;clear hK K)|refine ax ?_|(refine aF ?_ ?_<;>intro hc<;>(try simp only[cS]at hc)<;>(try exact aG))|refine aX ?_)
     refine wz (by kernel_rfl) ?_
     refine aw (r:=[0,2,4]) (by kernel_rfl) rfl rfl ⟨?_,?_,?_,trivial⟩
     refine cu rfl (bq rfl iI rfl) rfl ?_
     refine aw (r:=[1,2,4]) (by kernel_rfl) rfl rfl ⟨?_,?_,?_,trivial⟩
     refine cu rfl (cm rfl iI iI rfl) rfl ?_
     refine aw (r:=[2,4]) (by kernel_rfl) rfl rfl ⟨?_,?_,trivial⟩
     refine cu rfl (bC rfl) rfl ?_
     refine aw (r:=[3,4]) (by kernel_rfl) rfl rfl ⟨?_,?_,trivial⟩
     refine dq rfl iI rfl hx iI ?_;rotate_left
     refine cu rfl (bC rfl) rfl ?_
     refine aw (r:=[3]) (by kernel_rfl) rfl rfl ⟨?_,trivial⟩
     refine dq rfl iI rfl hx iI ?_;rotate_left
     refine cu rfl (bC rfl) rfl ?_
     refine aw (r:=[2]) (by kernel_rfl) rfl rfl ⟨?_,trivial⟩
     refine cu rfl (bC rfl) rfl ?_
     refine aw (r:=[3]) (by kernel_rfl) rfl rfl ⟨?_,trivial⟩
     refine dq rfl iI rfl hx iI ?_;rotate_left
     refine cu rfl (bC rfl) rfl ?_
     refine aw (r:=[1,3,4]) (by kernel_rfl) rfl rfl ⟨?_,?_,?_,trivial⟩
     refine cu rfl (cm rfl iI iI rfl) rfl ?_
     refine aw (r:=[3,4]) (by kernel_rfl) rfl rfl ⟨?_,?_,trivial⟩
     refine dq rfl iI rfl hx iI ?_;rotate_left
     refine cu rfl (bC rfl) rfl ?_
     refine aw (r:=[3]) (by kernel_rfl) rfl rfl ⟨?_,trivial⟩
     refine dq rfl iI rfl hx iI ?_;rotate_left
     refine dq rfl iI rfl hx iI ?_;rotate_left
     refine cu rfl (bC rfl) rfl ?_
     refine aw (r:=[1,3]) (by kernel_rfl) rfl rfl ⟨?_,?_,trivial⟩
     refine cu rfl (cm rfl iI iI rfl) rfl ?_
     refine aw (r:=[3]) (by kernel_rfl) rfl rfl ⟨?_,trivial⟩
     refine dq rfl iI rfl hx iI ?_;rotate_left
     refine dq rfl iI rfl hx iI ?_;rotate_left
     refine cu rfl (bC rfl) rfl ?_
     refine aw (r:=[1,2]) (by kernel_rfl) rfl rfl ⟨?_,?_,trivial⟩
     refine cu rfl (cm rfl iI iI rfl) rfl ?_
     refine aw (r:=[2]) (by kernel_rfl) rfl rfl ⟨?_,trivial⟩
     refine cu rfl (bC rfl) rfl ?_
     refine aw (r:=[3]) (by kernel_rfl) rfl rfl ⟨?_,trivial⟩
     refine dq rfl iI rfl hx iI ?_;rotate_left
     refine cu rfl (bC rfl) rfl ?_
     refine aw (r:=[1,3]) (by kernel_rfl) rfl rfl ⟨?_,?_,trivial⟩
     refine cu rfl (cm rfl iI iI rfl) rfl ?_
     refine aw (r:=[3]) (by kernel_rfl) rfl rfl ⟨?_,trivial⟩
     refine dq rfl iI rfl hx iI ?_;rotate_left
     refine dq rfl iI rfl hx iI ?_;rotate_left
     refine cu rfl (bC rfl) rfl ?_
     refine aw (r:=[0,3,4]) (by kernel_rfl) rfl rfl ⟨?_,?_,?_,trivial⟩
     refine cu rfl (bq rfl iI rfl) rfl ?_
     refine aw (r:=[1,3,4]) (by kernel_rfl) rfl rfl ⟨?_,?_,?_,trivial⟩
     refine cu rfl (cm rfl iI iI rfl) rfl ?_
     refine aw (r:=[3,4]) (by kernel_rfl) rfl rfl ⟨?_,?_,trivial⟩
     refine dq rfl iI rfl hx iI ?_;rotate_left
     refine cu rfl (bC rfl) rfl ?_
     refine aw (r:=[3]) (by kernel_rfl) rfl rfl ⟨?_,trivial⟩
     refine dq rfl iI rfl hx iI ?_;rotate_left
     refine dq rfl iI rfl hx iI ?_;rotate_left
     refine cu rfl (bC rfl) rfl ?_
     refine aw (r:=[1,3]) (by kernel_rfl) rfl rfl ⟨?_,?_,trivial⟩
     refine cu rfl (cm rfl iI iI rfl) rfl ?_
     refine aw (r:=[3]) (by kernel_rfl) rfl rfl ⟨?_,trivial⟩
     refine dq rfl iI rfl hx iI ?_;rotate_left
     refine dq rfl iI rfl hx iI ?_;rotate_left
     refine dq rfl iI rfl hx iI ?_;rotate_left
     refine cu rfl (bC rfl) rfl ?_
     refine aw (r:=[0,3]) (by kernel_rfl) rfl rfl ⟨?_,?_,trivial⟩
     refine cu rfl (bq rfl iI rfl) rfl ?_
     refine aw (r:=[1,3]) (by kernel_rfl) rfl rfl ⟨?_,?_,trivial⟩
     refine cu rfl (cm rfl iI iI rfl) rfl ?_
     refine aw (r:=[3]) (by kernel_rfl) rfl rfl ⟨?_,trivial⟩
     refine dq rfl iI rfl hx iI ?_;rotate_left
     refine dq rfl iI rfl hx iI ?_;rotate_left
     refine dq rfl iI rfl hx iI ?_;rotate_left
     refine cu rfl (bC rfl) rfl ?_
     refine aw (r:=[0,2]) (by kernel_rfl) rfl rfl ⟨?_,?_,trivial⟩
     refine cu rfl (bq rfl iI rfl) rfl ?_
     refine aw (r:=[1,2]) (by kernel_rfl) rfl rfl ⟨?_,?_,trivial⟩
     refine cu rfl (cm rfl iI iI rfl) rfl ?_
     refine aw (r:=[2]) (by kernel_rfl) rfl rfl ⟨?_,trivial⟩
     refine cu rfl (bC rfl) rfl ?_
     refine aw (r:=[3]) (by kernel_rfl) rfl rfl ⟨?_,trivial⟩
     refine dq rfl iI rfl hx iI ?_;rotate_left
     refine cu rfl (bC rfl) rfl ?_
     refine aw (r:=[1,3]) (by kernel_rfl) rfl rfl ⟨?_,?_,trivial⟩
     refine cu rfl (cm rfl iI iI rfl) rfl ?_
     refine aw (r:=[3]) (by kernel_rfl) rfl rfl ⟨?_,trivial⟩
     refine dq rfl iI rfl hx iI ?_;rotate_left
     refine dq rfl iI rfl hx iI ?_;rotate_left
     refine cu rfl (bC rfl) rfl ?_
     refine aw (r:=[0,3]) (by kernel_rfl) rfl rfl ⟨?_,?_,trivial⟩
     refine cu rfl (bq rfl iI rfl) rfl ?_
     refine aw (r:=[1,3]) (by kernel_rfl) rfl rfl ⟨?_,?_,trivial⟩
     refine cu rfl (cm rfl iI iI rfl) rfl ?_
     refine aw (r:=[3]) (by kernel_rfl) rfl rfl ⟨?_,trivial⟩
     refine dq rfl iI rfl hx iI ?_;rotate_left
     refine dq rfl iI rfl hx iI ?_;rotate_left
     refine dq rfl iI rfl hx iI ?_;rotate_left
     all_goals
      repeat' (first|with_reducible refine ij ?_|with_reducible refine kH ?_)
      refine jm rfl rfl iI iI rfl rfl ?_
      simp only[j6,ey,hd]
      exact⟨.slice none 0 0,rfl,ah⟩
    ·have j7:=AF w0 (l.drop (8*i)) v' gg X (by omega)
     have hx:=Ed w0 ((l.drop (8*i)).drop 4) (cq 1 v' 4) gg X (by omega)
     repeat' (first|(refine ab ?_;intro K hK)|(refine hK _ ?_;clear hK K)|refine ax ?_|(refine aF ?_ ?_<;>intro hc<;>(try simp only[cS]at hc)<;>(try exact aG))|refine aX ?_)
     refine wz (by kernel_rfl) ?_
     refine aw (r:=[0,2,4]) (by kernel_rfl) rfl rfl ⟨?_,?_,?_,trivial⟩
     refine cu rfl (bq rfl iI rfl) rfl ?_
     refine aw (r:=[1,2,4]) (by kernel_rfl) rfl rfl ⟨?_,?_,?_,trivial⟩
     refine cu rfl (cm rfl iI iI rfl) rfl ?_
     refine aw (r:=[2,4]) (by kernel_rfl) rfl rfl ⟨?_,?_,trivial⟩
     refine cu rfl (bC rfl) rfl ?_
     refine aw (r:=[3,4]) (by kernel_rfl) rfl rfl ⟨?_,?_,trivial⟩
     refine kv rfl (aa iI rfl j7 iI) rfl fun u=> ?_
     refine aw (r:=[4]) (by kernel_rfl) rfl rfl ⟨?_,trivial⟩
     refine cu rfl (bC rfl) rfl ?_
     refine aw (r:=[5]) (by kernel_rfl) rfl rfl ⟨?_,trivial⟩
     refine dq rfl iI rfl hx iI ?_;rotate_left
     refine cu rfl (bC rfl) rfl ?_
     refine aw (r:=[3]) (by kernel_rfl) rfl rfl ⟨?_,trivial⟩
     refine kv rfl (aa iI rfl j7 iI) rfl fun u=> ?_
     refine aw (r:=[5]) (by kernel_rfl) rfl rfl ⟨?_,trivial⟩
     refine dq rfl iI rfl hx iI ?_;rotate_left
     refine cu rfl (bC rfl) rfl ?_
     refine aw (r:=[2]) (by kernel_rfl) rfl rfl ⟨?_,trivial⟩
     refine cu rfl (bC rfl) rfl ?_
     refine aw (r:=[3]) (by kernel_rfl) rfl rfl ⟨?_,trivial⟩
     refine kv rfl (aa iI rfl j7 iI) rfl fun u=> ?_
     refine aw (r:=[5]) (by kernel_rfl) rfl rfl ⟨?_,trivial⟩
     refine dq rfl iI rfl hx iI ?_;rotate_left
     refine cu rfl (bC rfl) rfl ?_
     refine aw (r:=[1,3,4]) (by kernel_rfl) rfl rfl ⟨?_,?_,?_,trivial⟩
     refine cu rfl (cm rfl iI iI rfl) rfl ?_
     refine aw (r:=[3,4]) (by kernel_rfl) rfl rfl ⟨?_,?_,trivial⟩
     refine kv rfl (aa iI rfl j7 iI) rfl fun u=> ?_
     refine aw (r:=[4]) (by kernel_rfl) rfl rfl ⟨?_,trivial⟩
     refine cu rfl (bC rfl) rfl ?_
     refine aw (r:=[5]) (by kernel_rfl) rfl rfl ⟨?_,trivial⟩
     refine dq rfl iI rfl hx iI ?_;rotate_left
     refine cu rfl (bC rfl) rfl ?_
     refine aw (r:=[3]) (by kernel_rfl) rfl rfl ⟨?_,trivial⟩
     refine kv rfl (aa iI rfl j7 iI) rfl fun u=> ?_
     refine aw (r:=[5]) (by kernel_rfl) rfl rfl ⟨?_,trivial⟩
     refine dq rfl iI rfl hx iI ?_;rotate_left
     refine kv rfl (aa iI rfl j7 iI) rfl fun u=> ?_
     refine aw (r:=[1,4]) (by kernel_rfl) rfl rfl ⟨?_,?_,trivial⟩
     refine cu rfl (cm rfl iI iI rfl) rfl ?_
     refine aw (r:=[4]) (by kernel_rfl) rfl rfl ⟨?_,trivial⟩
     refine cu rfl (bC rfl) rfl ?_
     refine aw (r:=[5]) (by kernel_rfl) rfl rfl ⟨?_,trivial⟩
     refine dq rfl iI rfl hx iI ?_;rotate_left
     refine cu rfl (bC rfl) rfl ?_
     refine aw (r:=[1,5]) (by kernel_rfl) rfl rfl ⟨?_,?_,trivial⟩
     refine cu rfl (cm rfl iI iI rfl) rfl ?_
     refine aw (r:=[5]) (by kernel_rfl) rfl rfl ⟨?_,trivial⟩
     refine dq rfl iI rfl hx iI ?_;rotate_left
     refine dq rfl iI rfl hx iI ?_;rotate_left
     refine cu rfl (bC rfl) rfl ?_
     refine aw (r:=[1,3]) (by kernel_rfl) rfl rfl ⟨?_,?_,trivial⟩
     refine cu rfl (cm rfl iI iI rfl) rfl ?_
     refine aw (r:=[3]) (by kernel_rfl) rfl rfl ⟨?_,trivial⟩
     refine kv rfl (aa iI rfl j7 iI) rfl fun u=> ?_
     refine aw (r:=[5]) (by kernel_rfl) rfl rfl ⟨?_,trivial⟩
     refine dq rfl iI rfl hx iI ?_;rotate_left
     refine kv rfl (aa iI rfl j7 iI) rfl fun u=> ?_
     refine aw (r:=[1,5]) (by kernel_rfl) rfl rfl ⟨?_,?_,trivial⟩
     refine cu rfl (cm rfl iI iI rfl) rfl ?_
     refine aw (r:=[5]) (by kernel_rfl) rfl rfl ⟨?_,trivial⟩
     refine dq rfl iI rfl hx iI ?_;rotate_left
     refine dq rfl iI rfl hx iI ?_;rotate_left
     refine cu rfl (bC rfl) rfl ?_
     refine aw (r:=[1,2]) (by kernel_rfl) rfl rfl ⟨?_,?_,trivial⟩
     refine cu rfl (cm rfl iI iI rfl) rfl ?_
     refine aw (r:=[2]) (by kernel_rfl) rfl rfl ⟨?_,trivial⟩
     refine cu rfl (bC rfl) rfl ?_
     refine aw (r:=[3]) (by kernel_rfl) rfl rfl ⟨?_,trivial⟩
     refine kv rfl (aa iI rfl j7 iI) rfl fun u=> ?_
     refine aw (r:=[5]) (by kernel_rfl) rfl rfl ⟨?_,trivial⟩
     refine dq rfl iI rfl hx iI ?_;rotate_left
     refine cu rfl (bC rfl) rfl ?_
     refine aw (r:=[1,3]) (by kernel_rfl) rfl rfl ⟨?_,?_,trivial⟩
     refine cu rfl (cm rfl iI iI rfl) rfl ?_
     refine aw (r:=[3]) (by kernel_rfl) rfl rfl ⟨?_,trivial⟩
     refine kv rfl (aa iI rfl j7 iI) rfl fun u=> ?_
     refine aw (r:=[5]) (by kernel_rfl) rfl rfl ⟨?_,trivial⟩
     refine dq rfl iI rfl hx iI ?_;rotate_left
     refine kv rfl (aa iI rfl j7 iI) rfl fun u=> ?_
     refine aw (r:=[1,5]) (by kernel_rfl) rfl rfl ⟨?_,?_,trivial⟩
     refine cu rfl (cm rfl iI iI rfl) rfl ?_
     refine aw (r:=[5]) (by kernel_rfl) rfl rfl ⟨?_,trivial⟩
     refine dq rfl iI rfl hx iI ?_;rotate_left
     refine dq rfl iI rfl hx iI ?_;rotate_left
     refine cu rfl (bC rfl) rfl ?_
     refine aw (r:=[0,3,4]) (by kernel_rfl) rfl rfl ⟨?_,?_,?_,trivial⟩
     refine cu rfl (bq rfl iI rfl) rfl ?_
     refine aw (r:=[1,3,4]) (by kernel_rfl) rfl rfl ⟨?_,?_,?_,trivial⟩
     refine cu rfl (cm rfl iI iI rfl) rfl ?_
     refine aw (r:=[3,4]) (by kernel_rfl) rfl rfl ⟨?_,?_,trivial⟩
     refine kv rfl (aa iI rfl j7 iI) rfl fun u=> ?_
     refine aw (r:=[4]) (by kernel_rfl) rfl rfl ⟨?_,trivial⟩
     refine cu rfl (bC rfl) rfl ?_
     refine aw (r:=[5]) (by kernel_rfl) rfl rfl ⟨?_,trivial⟩
     refine dq rfl iI rfl hx iI ?_;rotate_left
     refine cu rfl (bC rfl) rfl ?_
     refine aw (r:=[3]) (by kernel_rfl) rfl rfl ⟨?_,trivial⟩
     refine kv rfl (aa iI rfl j7 iI) rfl fun u=> ?_
     refine aw (r:=[5]) (by kernel_rfl) rfl rfl ⟨?_,trivial⟩
     refine dq rfl iI rfl hx iI ?_;rotate_left
     refine kv rfl (aa iI rfl j7 iI) rfl fun u=> ?_
     refine aw (r:=[1,4]) (by kernel_rfl) rfl rfl ⟨?_,?_,trivial⟩
     refine cu rfl (cm rfl iI iI rfl) rfl ?_
     refine aw (r:=[4]) (by kernel_rfl) rfl rfl ⟨?_,trivial⟩
     refine cu rfl (bC rfl) rfl ?_
     refine aw (r:=[5]) (by kernel_rfl) rfl rfl ⟨?_,trivial⟩
     refine dq rfl iI rfl hx iI ?_;rotate_left
     refine cu rfl (bC rfl) rfl ?_
     refine aw (r:=[1,5]) (by kernel_rfl) rfl rfl ⟨?_,?_,trivial⟩
     refine cu rfl (cm rfl iI iI rfl) rfl ?_
     refine aw (r:=[5]) (by kernel_rfl) rfl rfl ⟨?_,trivial⟩
     refine dq rfl iI rfl hx iI ?_;rotate_left
     refine dq rfl iI rfl hx iI ?_;rotate_left
     refine cu rfl (bC rfl) rfl ?_
     refine aw (r:=[1,3]) (by kernel_rfl) rfl rfl ⟨?_,?_,trivial⟩
     refine cu rfl (cm rfl iI iI rfl) rfl ?_
     refine aw (r:=[3]) (by kernel_rfl) rfl rfl ⟨?_,trivial⟩
     refine kv rfl (aa iI rfl j7 iI) rfl fun u=> ?_
     refine aw (r:=[5]) (by kernel_rfl) rfl rfl ⟨?_,trivial⟩
     refine dq rfl iI rfl hx iI ?_;rotate_left
     refine kv rfl (aa iI rfl j7 iI) rfl fun u=> ?_
     refine aw (r:=[1,5]) (by kernel_rfl) rfl rfl ⟨?_,?_,trivial⟩
     refine cu rfl (cm rfl iI iI rfl) rfl ?_
     refine aw (r:=[5]) (by kernel_rfl) rfl rfl ⟨?_,trivial⟩
     refine dq rfl iI rfl hx iI ?_;rotate_left
     refine dq rfl iI rfl hx iI ?_;rotate_left
     refine kv rfl (aa iI rfl j7 iI) rfl fun u=> ?_
     refine aw (r:=[0,4]) (by kernel_rfl) rfl rfl ⟨?_,?_,trivial⟩
     refine cu rfl (bq rfl iI rfl) rfl ?_
     refine aw (r:=[1,4]) (by kernel_rfl) rfl rfl ⟨?_,?_,trivial⟩
     refine cu rfl (cm rfl iI iI rfl) rfl ?_
     refine aw (r:=[4]) (by kernel_rfl) rfl rfl ⟨?_,trivial⟩
     refine cu rfl (bC rfl) rfl ?_
     refine aw (r:=[5]) (by kernel_rfl) rfl rfl ⟨?_,trivial⟩
     refine dq rfl iI rfl hx iI ?_;rotate_left
     refine cu rfl (bC rfl) rfl ?_
     refine aw (r:=[1,5]) (by kernel_rfl) rfl rfl ⟨?_,?_,trivial⟩
     refine cu rfl (cm rfl iI iI rfl) rfl ?_
     refine aw (r:=[5]) (by kernel_rfl) rfl rfl ⟨?_,trivial⟩
     refine dq rfl iI rfl hx iI ?_;rotate_left
     refine dq rfl iI rfl hx iI ?_;rotate_left
     refine cu rfl (bC rfl) rfl ?_
     refine aw (r:=[0,5]) (by kernel_rfl) rfl rfl ⟨?_,?_,trivial⟩
     refine cu rfl (bq rfl iI rfl) rfl ?_
     refine aw (r:=[1,5]) (by kernel_rfl) rfl rfl ⟨?_,?_,trivial⟩
     refine cu rfl (cm rfl iI iI rfl) rfl ?_
     refine aw (r:=[5]) (by kernel_rfl) rfl rfl ⟨?_,trivial⟩
     refine dq rfl iI rfl hx iI ?_;rotate_left
     refine dq rfl iI rfl hx iI ?_;rotate_left
     refine dq rfl iI rfl hx iI ?_;rotate_left
     refine cu rfl (bC rfl) rfl ?_
     refine aw (r:=[0,3]) (by kernel_rfl) rfl rfl ⟨?_,?_,trivial⟩
     refine cu rfl (bq rfl iI rfl) rfl ?_
     refine aw (r:=[1,3]) (by kernel_rfl) rfl rfl ⟨?_,?_,trivial⟩
     refine cu rfl (cm rfl iI iI rfl) rfl ?_
     refine aw (r:=[3]) (by kernel_rfl) rfl rfl ⟨?_,trivial⟩
     refine kv rfl (aa iI rfl j7 iI) rfl fun u=> ?_
     refine aw (r:=[5]) (by kernel_rfl) rfl rfl ⟨?_,trivial⟩
     refine dq rfl iI rfl hx iI ?_;rotate_left
     refine kv rfl (aa iI rfl j7 iI) rfl fun u=> ?_
     refine aw (r:=[1,5]) (by kernel_rfl) rfl rfl ⟨?_,?_,trivial⟩
     refine cu rfl (cm rfl iI iI rfl) rfl ?_
     refine aw (r:=[5]) (by kernel_rfl) rfl rfl ⟨?_,trivial⟩
     refine dq rfl iI rfl hx iI ?_;rotate_left
     refine dq rfl iI rfl hx iI ?_;rotate_left
     refine kv rfl (aa iI rfl j7 iI) rfl fun u=> ?_
     refine aw (r:=[0,5]) (by kernel_rfl) rfl rfl ⟨?_,?_,trivial⟩
     refine cu rfl (bq rfl iI rfl) rfl ?_
     refine aw (r:=[1,5]) (by kernel_rfl) rfl rfl ⟨?_,?_,trivial⟩
     refine cu rfl (cm rfl iI iI rfl) rfl ?_
     refine aw (r:=[5]) (by kernel_rfl) rfl rfl ⟨?_,trivial⟩
     refine dq rfl iI rfl hx iI ?_;rotate_left
     refine dq rfl iI rfl hx iI ?_;rotate_left
     refine dq rfl iI rfl hx iI ?_;rotate_left
     refine cu rfl (bC rfl) rfl ?_
     refine aw (r:=[0,2]) (by kernel_rfl) rfl rfl ⟨?_,?_,trivial⟩
     refine cu rfl (bq rfl iI rfl) rfl ?_
     refine aw (r:=[1,2]) (by kernel_rfl) rfl rfl ⟨?_,?_,trivial⟩
     refine cu rfl (cm rfl iI iI rfl) rfl ?_
     refine aw (r:=[2]) (by kernel_rfl) rfl rfl ⟨?_,trivial⟩
     refine cu rfl (bC rfl) rfl ?_
     refine aw (r:=[3]) (by kernel_rfl) rfl rfl ⟨?_,trivial⟩
     refine kv rfl (aa iI rfl j7 iI) rfl fun u=> ?_
     refine aw (r:=[5]) (by kernel_rfl) rfl rfl ⟨?_,trivial⟩
     refine dq rfl iI rfl hx iI ?_;rotate_left
     refine cu rfl (bC rfl) rfl ?_
     refine aw (r:=[1,3]) (by kernel_rfl) rfl rfl ⟨?_,?_,trivial⟩
     refine cu rfl (cm rfl iI iI rfl) rfl ?_
     refine aw (r:=[3]) (by kernel_rfl) rfl rfl ⟨?_,trivial⟩
     refine kv rfl (aa iI rfl j7 iI) rfl fun u=> ?_
     refine aw (r:=[5]) (by kernel_rfl) rfl rfl ⟨?_,trivial⟩
     refine dq rfl iI rfl hx iI ?_;rotate_left
     refine kv rfl (aa iI rfl j7 iI) rfl fun u=> ?_
     refine aw (r:=[1,5]) (by kernel_rfl) rfl rfl ⟨?_,?_,trivial⟩
     refine cu rfl (cm rfl iI iI rfl) rfl ?_
     refine aw (r:=[5]) (by kernel_rfl) rfl rfl ⟨?_,trivial⟩
     refine dq rfl iI rfl hx iI ?_;rotate_left
     refine dq rfl iI rfl hx iI ?_;rotate_left
     refine cu rfl (bC rfl) rfl ?_
     refine aw (r:=[0,3]) (by kernel_rfl) rfl rfl ⟨?_,?_,trivial⟩
     refine cu rfl (bq rfl iI rfl) rfl ?_
     refine aw (r:=[1,3]) (by kernel_rfl) rfl rfl ⟨?_,?_,trivial⟩
     refine cu rfl (cm rfl iI iI rfl) rfl ?_
     refine aw (r:=[3]) (by kernel_rfl) rfl rfl ⟨?_,trivial⟩
     refine kv rfl (aa iI rfl j7 iI) rfl fun u=> ?_
     refine aw (r:=[5]) (by kernel_rfl) rfl rfl ⟨?_,trivial⟩
     refine dq rfl iI rfl hx iI ?_;rotate_left
     refine kv rfl (aa iI rfl j7 iI) rfl fun u=> ?_
     refine aw (r:=[1,5]) (by kernel_rfl) rfl rfl ⟨?_,?_,trivial⟩
     refine cu rfl (cm rfl iI iI rfl) rfl ?_
     refine aw (r:=[5]) (by kernel_rfl) rfl rfl ⟨?_,trivial⟩
     refine dq rfl iI rfl hx iI ?_;rotate_left
     refine dq rfl iI rfl hx iI ?_;rotate_left
     refine kv rfl (aa iI rfl j7 iI) rfl fun u=> ?_
     refine aw (r:=[0,5]) (by kernel_rfl) rfl rfl ⟨?_,?_,trivial⟩
     refine cu rfl (bq rfl iI rfl) rfl ?_
     refine aw (r:=[1,5]) (by kernel_rfl) rfl rfl ⟨?_,?_,trivial⟩
     refine cu rfl (cm rfl iI iI rfl) rfl ?_
     refine aw (r:=[5]) (by kernel_rfl) rfl rfl ⟨?_,trivial⟩
     refine dq rfl iI rfl hx iI ?_;rotate_left
     refine dq rfl iI rfl hx iI ?_;rotate_left
     refine dq rfl iI rfl hx iI ?_;rotate_left
     all_goals
      repeat' (first|with_reducible refine ij ?_|with_reducible refine kH ?_)
      refine jm rfl rfl iI iI rfl rfl ?_
      simp only[j6,ey,hd]
      exact⟨.slice none 0 0,rfl,ah⟩
   ·have j7:=AF w0 (l.drop (8*i)) v' gg X (by omega)
    have mF:=AF w0 ((l.drop (8*i)).drop 4) (cq 1 v' 4) gg X (by omega)
    have he:dZ l (i+1)=dZ l i++[(bm (l.drop (8*i)) 0,bm ((l.drop (8*i)).drop 4) 0)]:=by simp[dZ,cI]
    have Ca:eX w0 X (cq 1 (cq 1 v' 4) 4) UInt8 1 bU (((l.drop (8*i)).drop 4).drop 4):=iI
    rw[List.drop_drop,List.drop_drop,show 8*i+(4+4)=8*(i+1) by omega]at Ca
    have Eo:=jZ l i
    repeat' (first|(refine ab ?_;intro K hK)|(refine hK _ ?_;clear hK K)|refine ax ?_|(refine aF ?_ ?_<;>intro hc<;>(try simp only[cS]at hc)<;>(try exact aG))|refine aX ?_|refine az ?_|(refine bQ ?_;intro g)|(show WS _ _ _ (.region 22 _ true) _ _;refine BJ 2 [0,1,2,4,3,5,6,7,8,9,10] 10 [1] (by kernel_rfl) rfl rfl iI ?_)|(refine aD (aa iI rfl j7 iI) rfl rfl rfl ?_;intro u)|(refine aD (aa iI rfl mF iI) rfl rfl rfl ?_;intro u)|(refine aD (au bB [(bm (l.drop (8*i)) 0,bm ((l.drop (8*i)).drop 4) 0)] iI iI iI rfl rfl rfl rfl rfl iI rfl rfl rfl) rfl rfl rfl ?_;intro vb)|(refine aD (aR rfl rfl iI iI rfl iI iI lA (by first|omega|(simp[al]<;>omega)) rfl) rfl rfl rfl ?_;intro v2))
    refine⟨m - 1,_,by omega,⟨i+1,_,v2,by omega,by omega,Ca,rfl⟩,cG,rfl,?_⟩
    rw[he]
    exact ah
  ·obtain rfl:i=n.toNat:=by omega
   repeat' (first|(refine ab ?_;intro K hK)|(refine hK _ ?_;clear hK K)|refine ax ?_|(refine aF ?_ ?_<;>intro hc<;>(try simp only[cS]at hc)<;>(try exact aG))|refine aX ?_|refine az ?_|((first|refine dn rfl rfl iI rfl ?_ ?_|refine dm rfl rfl iI rfl ?_ ?_|refine dU rfl rfl iI rfl ?_ ?_)<;>intro hc)|(refine bQ ?_;intro g)|(refine kW rfl rfl ?_ ?_<;>(intro hc;first|(cases hc;done)|skip))|with_reducible refine ij ?_)
   all_goals
    first
    |(have hd:Pk.dec (t::k::f::z::n::l)=none:=by rw[Cc,if_neg];omega
      refine jm rfl rfl iI iI rfl rfl ?_
      simp only[j6,ey,hd]
      exact⟨.slice none 0 0,rfl,ah⟩)
    |(have hd:=Cc.trans (if_pos (by omega))
      refine xR rfl rfl iI iI rfl ?_
      simp only[j6,ey,hd,Option.getD_some,Option.isSome_some]
      exact⟨vl,by simp[Pk.val,Pk.cells,h2],ah⟩)
end
section
open Go.RowKit
theorem FM {t k f z n:UInt8} {l:List UInt8} (h:z.toNat≠0∨t.toNat=0):Pk.dec (t::k::f::z::n::l)=none:=by
 simp only[Pk.dec]
 rw[if_neg]
 rintro⟨h1,h2⟩
 rcases h with h|h
 ·exact h (by rw[h1];rfl)
 ·exact h2 (UInt8.toNat_inj.1 (by rw[h];rfl))
theorem BW {t k f z n:UInt8} {l:List UInt8} (h:f.toNat≠0) (h2:f.toNat≠8∨k.toNat≠1):Pk.dec (t::k::f::z::n::l)=none:=by
 have h0:f≠0:=fun e=>h (by rw[e];rfl)
 have h8:f=8→k≠1:=fun e e2=>by
  rcases h2 with h2|h2
  ·exact h2 (by rw[e];rfl)
  ·exact h2 (by rw[e2];rfl)
 simp only[Pk.dec]
 split
 ·unfold Pk.body
  repeat' split
  all_goals first
   |rfl
   |(rename_i hk hc;exfalso;rcases hc.2 with e|⟨e,_⟩<;>first|exact h0 e|exact h8 e hk)
   |(exfalso;simp_all;done)
 ·rfl
theorem JB {t k f z n:UInt8} {l:List UInt8} (h1:k.toNat≠1) (h2:k.toNat≠2) (h3:k.toNat≠3) (h9:k.toNat≠9):Pk.dec (t::k::f::z::n::l)=none:=by
 have k1:k≠1:=fun e=>h1 (by rw[e];rfl)
 have k2:k≠2:=fun e=>h2 (by rw[e];rfl)
 have k3:k≠3:=fun e=>h3 (by rw[e];rfl)
 have k9:k≠9:=fun e=>h9 (by rw[e];rfl)
 simp only[Pk.dec,Pk.body,if_neg k1,if_neg k2,if_neg k3,if_neg k9,ite_self]
attribute [local irreducible] WS LS cD eM cn cv Spec bA iR iQ aK
variable (w0:World)
theorem sT (l:List UInt8) (hl:l.length≤100000) (v:Value) (X:af) [hX:eX w0 X v UInt8 1 bU l]:Spec Tryz.prog w0 35 [v] X (fun v':Value=>j6 l v') (fun v'=>ey l v' X):=by
 rcases Nat.lt_or_ge l.length 5 with h5|h5
 ·exact yO w0 l h5 v X
 obtain⟨t,k,f,z,n,r,rfl⟩:∃t k f z n r,l=t::k::f::z::n::r:=by
  match l,h5 with
  |t::k::f::z::n::r,_=>exact⟨t,k,f,z,n,r,rfl⟩
 have hr:r.length≤100000:=by simp at hl;omega
 by_cases hz:z.toNat=0
 ·by_cases ht:t.toNat=0
  ·exact sS w0 t k f z n r hr (FM (.inr ht)) (by omega) v X
  ·by_cases hf:f.toNat=0
   ·by_cases h1:k.toNat=1
    ·exact MW w0 t k f z n r hr hz (by omega) hf h1 v X
    ·by_cases h2:k.toNat=2
     ·exact PM w0 t k f z n r hr hz (by omega) hf h2 v X
     ·by_cases h3:k.toNat=3
      ·exact PN w0 t k f z n r hr hz (by omega) hf h3 v X
      ·by_cases h9:k.toNat=9
       ·exact PO w0 t k f z n r hr hz (by omega) hf h9 v X
       ·exact Fo w0 t k f z n r hr (JB h1 h2 h3 h9) hz (by omega) hf h1 h2 h3 h9 v X
   ·by_cases h8:f.toNat=8
    ·by_cases h1:k.toNat=1
     ·exact MX w0 t k f z n r hr hz (by omega) h8 h1 v X
     ·exact sS w0 t k f z n r hr (BW hf (.inr h1)) (by omega) v X
    ·exact sS w0 t k f z n r hr (BW hf (.inl h8)) (by omega) v X
 ·exact sS w0 t k f z n r hr (FM (.inl hz)) (by omega) v X
def gl (l:List UInt8) (v':Value):Value:= .tuple #[((Pk.dec l).getD Pk.zero).val v',.int .i64 (if(Pk.dec l).isSome then 0 else 1)]
end
section
open Go.RowKit
def Pk.gI (l:List (UInt32×UInt32)):Pk:=⟨1,3,0,false,0,0,0,0,0,0,l,[]⟩
def Nd.tell (s:Nd) (to dest seq:UInt32):Nd:=s.send to (Pk.gI [(dest,seq)])
def Nd.gQ (s:Nd) (now:UInt64) (from_:UInt32) (f:cP):Nd:=match Pk.dec f with
 |none=>s.drop 0
 |some p=>if from_=0∨from_=s.self then s.drop 0 else
  if p.kind=9∧p.dest≠s.self then Nd.drop {s.tell from_ p.dest (eJ s.ls p.dest)with cd:=now+2000} 8 else s.drop 8
def Nd.LK (s:Nd) (now:UInt64) (from_:UInt32) (f:cP):Prop:=Pk.dec f=none∨(from_=0∨from_=s.self)∨now<s.cd
theorem Pk.pG (l:List (UInt32×UInt32)) (h:l.length≤100000):(Pk.gI l).Ok:=by
 constructor<;>simp[Pk.gI,cM,h]
attribute [local irreducible] WS LS cD eM cn cv Spec bA aK
variable (w0:World)
theorem zV (gn:Nat) (s:Nd) (h:NH) (to dest seq:UInt32) (hd:s.out.aJ.length≤900000):Spec Tryz.prog w0 68 [ptr gn 0,u32 to,u32 dest,u32 seq] (bG gn s h) (fun _:Value=> .tuple #[]) (fun vf=>bG gn (s.tell to dest seq) {h with vf:=vf}):=by
 have p1:=fun v hv=>lW w0 gn s h to (Pk.gI [(dest,seq)]) (Pk.pG _ (by simp)) v hv (rows 180 2 bB v [(dest,seq)]) (hX:=fy _ _ _ _ _) hd
 simp only[Pk.val,Pk.cells,Pk.gI]at p1
 refine Spec.enter Tryz.func68 rfl Tryz.ntmps68 rfl fun G=> ?_
 simp only[aN]
 repeat' (first|refine ax ?_|refine az ?_|(refine ai (au bB [(dest,seq)] iI iI iI rfl rfl rfl rfl rfl iI rfl rfl rfl) rfl ?_;intro vl;refine pj vl iI fun A cap hv=> ?_;subst hv)|(refine ai (aa iI rfl (p1 _ rfl) iI) rfl ?_;intro vf))
 exact aj (.inr rfl) rfl ⟨vf,rfl,by unfold Nd.tell Pk.gI;exact ah⟩
theorem HV (gn:Nat) (s:Nd) (now:UInt64) (from_:UInt32) (f:cP) (hq:s.LK now from_ f) (hf:f.length≤100000) (hd:s.out.aJ.length≤10000) (rU:s.out.dropped.length≤10000) (bf br bn bw:Nat) (tf tr tn tw:TypeId) (v:Value) (X:af) [hX:eX w0 X v UInt8 1 bU f]:
 Spec Tryz.prog w0 65 [ptr bf 0,ptr br 0,ptr bn 0,ptr bw 0] (eD gn s*(aK bf tf [v]*(aK br tr [u32 from_]*(aK bn tn [ptr gn 0]*(aK bw tw [u64 now]*X))))) (fun _:Unit=> .tuple #[]) (fun _=>eD gn (s.gQ now from_ f)*X):=by
 have p1:=sT w0 f hf v X
 refine Spec.enter Tryz.func65 rfl Tryz.ntmps65 rfl fun G=> ?_
 rw[ad (eD gn s)]
 refine wA fun h=> ?_
 have p2:=iE w0 gn s h 0 (by omega)
 have p3:=iE w0 gn s h 8 (by omega)
 have p4:=fun d=>mo w0 h.tb s.self s.ls d
 have p5:=fun d q=>zV w0 gn s h from_ d q (by omega)
 unfold Nd.LK at hq
 unfold j6 ey at p1
 cases hp:Pk.dec f with
 |none=>
  have es:s.gQ now from_ f=s.drop 0:=by unfold Nd.gQ;rw[hp]
  simp only[hp,Option.getD_none,Option.isSome_none,Pk.val,Pk.cells,Pk.zero]at p1
  simp only[aN]
  repeat' (first|(refine ab ?_;intro K hK)|(refine hK _ ?_;clear hK K)|refine ax ?_|(refine aF ?_ ?_<;>intro hc<;>(try simp only[cS]at hc)<;>(try exact aG))|refine az ?_|(refine bT ?_;intro g)|(refine bQ ?_;intro g)|refine mO (by kernel_rfl) ?_|(refine ai (aa iI rfl p1 iI) rfl ?_;intro vl)|(refine ai (aa iI rfl p2 iI) rfl ?_;intro v2))
  exact aj (.inr rfl) rfl ⟨(),rfl,by rw[es,ad (eD _ _)];exact aq.vi {h with vd:=v2} (ah)⟩
 |some p=>
  simp only[hp,Option.getD_some,Option.isSome_some,Pk.val,Pk.cells]at p1
  by_cases h0:from_=0∨from_=s.self
  ·have es:s.gQ now from_ f=s.drop 0:=by unfold Nd.gQ;rw[hp];simp only[h0,if_true]
   clear p3 p4 p5
   simp only[aN]
   rcases h0 with h0|h0
   ·repeat' (first|(refine ab ?_;intro K hK)|(refine hK _ ?_;clear hK K)|refine ax ?_|(refine aF ?_ ?_<;>intro hc<;>(try simp only[cS]at hc)<;>(try exact aG))|refine aX ?_|refine az ?_|(refine bT ?_;intro g)|(refine bQ ?_;intro g)|refine mO (by kernel_rfl) ?_|(refine ai (aa iI rfl p1 iI) rfl ?_;intro vl)|(refine ai (aa iI rfl p2 iI) rfl ?_;intro v2))
    exact aj (.inr rfl) rfl ⟨(),rfl,by rw[es,ad (eD _ _)];exact aq.vi {h with vd:=v2} (ah)⟩
   ·by_cases Y1:from_=0
    ·repeat' (first|(refine ab ?_;intro K hK)|(refine hK _ ?_;clear hK K)|refine ax ?_|(refine aF ?_ ?_<;>intro hc<;>(try simp only[cS]at hc)<;>(try exact aG))|refine aX ?_|refine az ?_|(refine bT ?_;intro g)|(refine bQ ?_;intro g)|refine mO (by kernel_rfl) ?_|(refine ai (aa iI rfl p1 iI) rfl ?_;intro vl)|(refine ai (aa iI rfl p2 iI) rfl ?_;intro v2))
     exact aj (.inr rfl) rfl ⟨(),rfl,by rw[es,ad (eD _ _)];exact aq.vi {h with vd:=v2} (ah)⟩
    ·simp only[bG,aY,bb]at p2 ⊢
     repeat' (first|refine ag (id:=2) (.range 15) ?_|(refine ab ?_;intro K hK)|(refine hK _ ?_;clear hK K)|refine ax ?_|(refine aF ?_ ?_<;>intro hc<;>(try simp only[cS]at hc)<;>(try exact aG))|refine aX ?_|refine az ?_|(refine bT ?_;intro g)|(refine bQ ?_;intro g)|(refine ai (aa iI rfl p1 iI) rfl ?_;intro vl)|(refine ai (aa iI rfl p2 iI) rfl ?_;intro v2))
     exact aj (.inr rfl) rfl ⟨(),rfl,by rw[es,ad (eD _ _)];exact aq.vi {h with vd:=v2} (by simp only[bG,aY,bb];exact ah)⟩
  ·have hs:now<s.cd:=by
    rcases hq with hq|hq|hq
    ·rw[hp]at hq;cases hq
    ·exact absurd hq h0
    ·exact hq
   obtain⟨bK,kind,aH,unknown,id,dest,ak,QH,av,bD,lost,ar⟩:=p
   have h1:from_≠0:=fun e=>h0 (.inl e)
   have h2:from_≠s.self:=fun e=>h0 (.inr e)
   simp only at p1
   by_cases hk:kind=9
   ·subst hk
    by_cases PZ:dest=s.self
    ·have es:s.gQ now from_ f=s.drop 8:=by unfold Nd.gQ;rw[hp];simp[h1,h2,PZ]
     clear p2 p4 p5
     simp only[bG,aY,bb]at p3 ⊢
     simp only[aN]
     repeat' (first|refine ag (id:=2) (.range 15) ?_|refine ag (id:=4) (.range 7) ?_|refine ag (id:=5) (.range 12) ?_|(refine ab ?_;intro K hK)|(refine hK _ ?_;clear hK K)|refine ax ?_|(refine aF ?_ ?_<;>intro hc<;>(try simp only[cS]at hc)<;>(try exact aG))|refine aX ?_|refine az ?_|(refine bT ?_;intro g)|(refine bQ ?_;intro g)|(refine ai (aa iI rfl p1 iI) rfl ?_;intro vl)|(refine ai (aa iI rfl p3 iI) rfl ?_;intro v2))
     exact aj (.inr rfl) rfl ⟨(),rfl,by rw[es,ad (eD _ _)];exact aq.vi {h with vd:=v2} (by simp only[bG,aY,bb];exact ah)⟩
    ·obtain⟨s1,iu⟩:∃s1:Nd,s1=s.tell from_ dest (eJ s.ls dest):=⟨_,rfl⟩
     have es:s.gQ now from_ f=Nd.drop {s1 with cd:=now+2000} 8:=by unfold Nd.gQ;rw[hp,iu];simp[h1,h2,PZ]
     have er:∀h',ba gn {s1 with cd:=now+2000} h'=ba gn s1 h':=fun _=>rfl
     have p6:=fun vf=>iE w0 gn {s1 with cd:=now+2000} {h with vf:=vf} 8 (by rw[iu];show s.out.dropped.length≤_;omega)
     replace p4:=p4 dest
     replace p5:=p5 dest (eJ s.ls dest)
     rw[←iu]at p5
     clear p2 p3
     simp only[bG,aY,bb,er]at p5 p6 ⊢
     simp only[aN]
     repeat' (first|refine ag (id:=2) (.range 15) ?_|refine ag (id:=4) (.range 7) ?_|refine ag (id:=5) (.range 12) ?_|refine ae (id:=6) (.range 12) 6 [0,3,5] ?_|(refine ab ?_;intro K hK)|(refine hK _ ?_;clear hK K)|refine ax ?_|(refine aF ?_ ?_<;>intro hc<;>(try simp only[cS]at hc)<;>(try exact aG))|refine aX ?_|refine az ?_|((refine' LQ ?zh rfl ?_);case zh=>intro F';exact bE rfl rfl iI)|(refine bT ?_;intro g)|(refine bQ ?_;intro g)|(refine ai (aa iI rfl p1 iI) rfl ?_;intro vl)|(refine aD (aa iI rfl p4 iI) rfl rfl rfl ?_;intro u4)|(refine ai (aa iI rfl p5 iI) rfl ?_;intro vf;replace p6:=p6 vf)|(refine ai (aa iI rfl p6 iI) rfl ?_;intro v2))
     exact aj (.inr rfl) rfl ⟨(),rfl,by rw[es,ad (eD _ _)];exact aq.vi {h with vf:=vf,vd:=v2} (by simp only[bG,aY,bb];exact ah)⟩
   ·have es:s.gQ now from_ f=s.drop 8:=by unfold Nd.gQ;rw[hp];simp[h1,h2,hk]
    clear p2 p4 p5
    simp only[bG,aY,bb]at p3 ⊢
    simp only[aN]
    repeat' (first|refine ag (id:=2) (.range 15) ?_|refine ag (id:=4) (.range 7) ?_|refine ag (id:=5) (.range 12) ?_|(refine ab ?_;intro K hK)|(refine hK _ ?_;clear hK K)|refine ax ?_|(refine aF ?_ ?_<;>intro hc<;>(try simp only[cS]at hc)<;>(try exact aG))|refine aX ?_|refine az ?_|(refine bT ?_;intro g)|(refine bQ ?_;intro g)|(refine ai (aa iI rfl p1 iI) rfl ?_;intro vl)|(refine ai (aa iI rfl p3 iI) rfl ?_;intro v2))
    exact aj (.inr rfl) rfl ⟨(),rfl,by rw[es,ad (eD _ _)];exact aq.vi {h with vd:=v2} (by simp only[bG,aY,bb];exact ah)⟩
end
section
open Go.RowKit
theorem Nd.EO (s:Nd) (l:Ln):(s.cf l).out.ay.length≤s.out.ay.length+13:=by
 unfold Nd.cf
 (repeat' split)<;>simp[Nd.write,Rec.dz]
theorem Nd.ES (s:Nd):s.dh.out.ay.length≤s.out.ay.length+13:=by
 unfold Nd.dh
 split<;>simp[Nd.write,Rec.dz]
theorem Nd.CR (L:List Ln):∀s:Nd,(L.foldl Nd.cf s).out.ay.length≤s.out.ay.length+13*L.length:=by
 induction L with
 |nil=>intro s;simp
 |cons l L ih=>intro s;have h1:=ih (s.cf l);have h2:=s.EO l;simp only[List.foldl_cons,List.length_cons];omega
theorem Nd.zI (s:Nd) (ok:aW s.ls):s.note.out.ay.length≤s.out.ay.length+117:=by
 have h1:=Nd.CR (cE s.ls) s.dh
 have h2:=s.ES
 have h3:=iO s.ls
 have h4:=ok.short
 unfold Nd.note
 omega
structure Nd.fz (s t:Nd):Prop where
 ls:t.ls=s.ls
 self:t.self=s.self
 seq:t.seq=s.seq
 cd:t.cd=s.cd
 seen:t.seen=s.seen
 order:t.order=s.order
 wait:t.wait=s.wait
 bu:t.bu=s.bu
 bI:t.bI=s.bI
 last:t.last=s.last
 names:t.names=s.names
 ids:t.ids=s.ids
 ff:t.ff=s.ff
 aP:t.aP=s.aP
 now:t.now=s.now
 aJ:t.out.aJ=s.out.aJ
 cj:t.out.cj=s.out.cj
 dropped:t.out.dropped=s.out.dropped
 replace:t.out.replace=s.out.replace
theorem Nd.fz.PA (s:Nd):s.fz s:=by constructor<;>rfl
theorem Nd.fz.write (s:Nd) (r:Rec):s.fz (s.write r):=by constructor<;>rfl
theorem Nd.fz.trans {s t u:Nd} (h:s.fz t) (k:t.fz u):s.fz u:=by
 constructor
 ·exact k.ls.trans h.ls
 ·exact k.self.trans h.self
 ·exact k.seq.trans h.seq
 ·exact k.cd.trans h.cd
 ·exact k.seen.trans h.seen
 ·exact k.order.trans h.order
 ·exact k.wait.trans h.wait
 ·exact k.bu.trans h.bu
 ·exact k.bI.trans h.bI
 ·exact k.last.trans h.last
 ·exact k.names.trans h.names
 ·exact k.ids.trans h.ids
 ·exact k.ff.trans h.ff
 ·exact k.aP.trans h.aP
 ·exact k.now.trans h.now
 ·exact k.aJ.trans h.aJ
 ·exact k.cj.trans h.cj
 ·exact k.dropped.trans h.dropped
 ·exact k.replace.trans h.replace
theorem Nd.fz.cf (s:Nd) (l:Ln):s.fz (s.cf l):=by
 unfold Nd.cf
 (repeat' split)<;>first|exact Nd.fz.write _ _|exact Nd.fz.PA _
theorem Nd.fz.dh (s:Nd):s.fz s.dh:=by
 unfold Nd.dh
 split
 ·exact Nd.fz.write _ _
 ·exact Nd.fz.PA _
theorem Nd.fz.oW (L:List Ln):∀s:Nd,s.fz (L.foldl Nd.cf s):=by
 induction L with
 |nil=>intro s;exact Nd.fz.PA s
 |cons l L ih=>intro s;exact(Nd.fz.cf s l).trans (ih _)
theorem Nd.fz.note (s:Nd):s.fz s.note:=(Nd.fz.dh s).trans (Nd.fz.oW _ _)
theorem Nd.DR (s:Nd) (now:UInt64):(s.begin now).self=s.self:=(Nd.fz.note _).self
theorem Nd.lk (s:Nd) (now:UInt64):(s.begin now).out.aJ=[]:=(Nd.fz.note _).aJ
theorem Nd.wM (s:Nd) (now:UInt64):(s.begin now).out.cj=[]:=(Nd.fz.note _).cj
theorem Nd.mC (s:Nd) (now:UInt64):(s.begin now).out.dropped=[]:=(Nd.fz.note _).dropped
theorem Nd.fL (s:Nd) (now:UInt64) (ok:aW s.ls):(s.begin now).aI.length≤s.aI.length+9:=by
 have:=Nd.nj {s with now:=now,out:=dS.zero,ls:=mE now s.ls} (ok.exp now)
 exact this
theorem Nd.fK (s:Nd) (now:UInt64) (ok:aW s.ls):(s.begin now).out.ay.length≤117:=by
 have:=Nd.zI {s with now:=now,out:=dS.zero,ls:=mE now s.ls} (ok.exp now)
 simpa [dS.zero,Nd.begin]using this
attribute [local irreducible] WS LS cD eM cn cv Spec bA aK
variable (w0:World)
theorem AY (gn:Nat) (s:Nd) (ok:aW s.ls):
 Spec Tryz.prog w0 36 [ptr gn 0] (jg gn s) (fun x:Value×List da=>x.1) (fun x=>jg gn s*(pure' (x.2.map (·.1)=cE s.ls)*(rows 53 7 bJ x.1 x.2*cQ x.2))):=by
 refine Spec.jr Tryz.func36 rfl Tryz.ntmps36 rfl fun G=> ?_
 refine rv fun h o=> ?_
 simp only[aN,bb]
 have p1:=tO w0 gn 159 (bb 0 s h o).tail
 have p2:=zx w0 h.tb s.self s.ls ok
 simp only[bb,List.tail_cons]at p1
 repeat' (first|(refine ab ?_;intro K hK)|(refine hK _ ?_;clear hK K)|refine ax ?_|refine az ?_|(refine ai (aa iI rfl p1 iI) rfl ?_;intro u1)|(refine ai (aa iI rfl p2 iI) rfl ?_;intro x)|refine we rfl rfl rfl ?_)
 simp only[Env.hJ]
 refine sx (pH (u:= .returning) (im:=[]) (args:=[ptr gn 0]) (by simp) iI ?_)
 refine sQ w0 iI rfl ?_
 refine mn rfl (bh rfl) ⟨x,rfl,?_⟩
 rw[ad (jg _ _)]
 refine jc h o ?_
 simp only[bb]
 exact ah
theorem HL (gn:Nat) (s:Nd):
 Spec Tryz.prog w0 33 [ptr gn 0] (jg gn s) (fun _:Unit=>u32 s.seq) (fun _=>jg gn s):=by
 refine Spec.jr Tryz.func33 rfl Tryz.ntmps33 rfl fun G=> ?_
 refine rv fun h o=> ?_
 simp only[aN,bb]
 have p1:=tO w0 gn 159 (bb 0 s h o).tail
 simp only[bb,List.tail_cons]at p1
 repeat' (first|(refine ab ?_;intro K hK)|(refine hK _ ?_;clear hK K)|refine ax ?_|refine az ?_|(refine ai (aa iI rfl p1 iI) rfl ?_;intro u1)|refine we rfl rfl rfl ?_)
 simp only[Env.hJ]
 refine sx (pH (u:= .returning) (im:=[]) (args:=[ptr gn 0]) (by simp) iI ?_)
 refine sQ w0 iI rfl ?_
 refine mn rfl (bh rfl) ⟨(),rfl,?_⟩
 refine jc h o ?_
 simp only[bb]
 exact ah
end
end Go.Proofs.YtapoehkdnglahabGreat

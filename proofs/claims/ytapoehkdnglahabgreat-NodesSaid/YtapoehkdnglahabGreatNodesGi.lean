/- A part of what Nodes needs. -/
import Derived.Test.YtapoehkdnglahabGreatNodesGh
set_option maxHeartbeats 8000000
set_option maxRecDepth 100000
set_option linter.unusedVariables false
set_option linter.unusedSimpArgs false
set_option linter.unusedSectionVars false
namespace Go.Proofs.YtapoehkdnglahabGreat
section
open Go.RowKit
attribute [local irreducible] WS LS cD eM cn cv Spec bA aK
variable (w0:World)
def fZ (b r:Nat) (last:Int) (l:List Tm):af:=hex fun v=>hex fun m=>pure' (kB l m)*lM b v r last l m
theorem aq.fZ {b r:Nat} {last:Int} {l:List Tm} {v:Value} {m:List (Int×Int)} {H F:af} (hm:kB l m) (h:aq H (lM b v r last l m*F)):aq H (fZ b r last l*F):=
 h.trans ((aq.vW hm).trans ((aq.of_eq (ad _ _ _).symm).trans ((aq.qA (p:=fun m=>pure' (kB l m)*lM b v r last l m) m).trans (aq.qA (p:=fun v=>hex fun m=>pure' (kB l m)*lM b v r last l m) v))))
theorem ru {P:Program} {n:fT} {w0:World} {c:Code} {Q:Exit→St→Prop} {E:Env} {D:List Deferred} {F:af} {b r:Nat} {last:Int} {l:List Tm} (h:∀v m,kB l m→WS P n w0 c Q ⟨E,D,lM b v r last l m*F⟩):WS P n w0 c Q ⟨E,D,fZ b r last l*F⟩:=by
 refine iU fun v=>iU fun m=> ?_
 exact Ja iI (h v m)
theorem vE.cut {l:List Tm} {i:Nat} (hn:vE l) (hi:i<l.length):vE (qz l i):=
 (hn.perm (kN hi (show l.length - 1<l.length by omega)).symm).sublist ((List.take_sublist _ _).map _)
theorem He (b r:Nat) (last:Int) (l:List Tm) (t:UInt64) (x:Int) (hx:∀u∈l,u.id≠last+1) (hn:vE l) (hl:l.length≤900000) (h0:0≤last∧last≤1000000000000000):
 Spec Tryz.prog w0 227 [ptr b 0,u64 t,.int .i64 x] (fZ b r last l) (fun _:Unit=> .int .i64 (last+1)) (fun _=>fZ b r (last+1) (L1 l (Tm.mk t (last+1) x))):=by
 refine Spec.enter Tryz.func227 rfl Tryz.ntmps227 rfl fun G=> ?_
 simp only[aN]
 refine ru fun v m hm=> ?_
 have AL:vE (l++[(Tm.mk t (last+1) x)]):=by
  unfold vE at hn ⊢
  rw[List.map_append,List.nodup_append]
  refine⟨hn,by simp,?_⟩
  intro a ha c hc
  obtain⟨u,hu,rfl⟩:=List.mem_map.1 ha
  simp at hc;subst hc;exact hx u hu
 have e:((l++[(Tm.mk t (last+1) x)]).length:Int) - 1=(l.length:Int):=by simp
 repeat' (first|refine ae (id:=2) (.range 17) 13 [4,9] ?_|refine cK (id:=2) 0 (.range 17) 16 [4,9] ?_|refine ae (id:=3) (.range 15) 14 [3,7,11,12] ?_|(refine ab ?_;intro K hK)|(refine hK _ ?_;clear hK K)|refine ax ?_|refine az ?_|(refine bQ ?_;intro g)|((first|refine' bL ?zh ?_|refine' dP ?zh rfl rfl ?_);(case zh=>exact dt rfl rfl rfl iI iI iI iI iI);intro g)|(refine aD (au MT [(Tm.mk t (last+1) x)] iI iI iI rfl rfl rfl rfl rfl iI rfl rfl rfl) rfl rfl rfl ?_;intro g)|(refine aD (aR rfl rfl iI iI rfl iI iI MU (by first|omega|(simp[al]<;>omega)) rfl) rfl rfl rfl ?_;intro v2)|rw[e]|(refine IP (aa iI rfl (Gx w0 b v2 r (last+1) (l++[(Tm.mk t (last+1) x)]) _ l.length _ rfl (by simp) (by simp;omega) (hm.snoc (Tm.mk t (last+1) x) hx) AL) iI) rfl ?_;intro m2 Ni))
 exact aC (.inl rfl) rfl rfl ⟨(),rfl,aq.fZ (v:=v2) Ni (ah)⟩
theorem yX {l:List Tm} {i:Nat} (hi:i<l.length):cJ (swp l i (l.length - 1)) (l.length - 1)=cJ l i:=by
 rw[fE hi (by omega)];simp
theorem Da (b r:Nat) (last:Int) (l:List Tm) (i:Nat) (x:Int) (hx:x=(i:Int)) (hi:i<l.length) (hn:vE l) (hl:l.length≤900000):
 Spec Tryz.prog w0 196 [ptr b 0,.int .i64 x] (fZ b r last l) (fun _:Unit=> .agg (MT (cJ l i)).toArray) (fun _=>fZ b r last (yH l i)):=by
 subst hx
 refine Spec.enter Tryz.func196 rfl Tryz.ntmps196 rfl fun G=> ?_
 simp only[aN]
 refine ru fun v m hm=> ?_
 have e:(l.length:Int) - 1=((l.length - 1:Nat):Int):=by omega
 have hle:l.length - 1<l.length:=by omega
 have hz:(swp l i (l.length - 1))[l.length - 1]? =some (cJ l i):=by rw[←yX hi];exact hZ (by rw[eT];omega)
 have Rb:l.length - 1<(swp l i (l.length - 1)).length:=by rw[eT];omega
 have Mk:=hm.swap hn hi hle
 have OP:=hn.perm (kN hi hle).symm
 have Ni:kB ((swp l i (l.length - 1)).take (l.length - 1)) (gq (bY (bY m (cJ (swp l i (l.length - 1)) i).id (i:Int)) (cJ (swp l i (l.length - 1)) (l.length - 1)).id ((l.length - 1:Nat):Int)) (cJ l i).id):=by
  have h:=Mk.pop OP (by rw[eT];omega)
  rw[eT]at h
  rw[←yX hi];exact h
 generalize hL:(swp l i (l.length - 1)).take (l.length - 1)=L at Ni
 have SF:qz l i=L:=hL
 have vT:vE L:=SF▸hn.cut hi
 have VL:L.length=l.length - 1:=by rw[←SF,kI]
 repeat' (first|refine ae (id:=5) (.range 7) 6 [3,5] ?_|(refine ab ?_;intro K hK)|(refine hK _ ?_;clear hK K)|refine ax ?_|(refine aF ?_ ?_<;>intro hc<;>(try simp only[cS]at hc)<;>(try exact aG))|refine az ?_|((first|refine' LQ ?zh rfl ?_|refine' bP rfl rfl rfl ?zh ?_|refine' bk rfl rfl ?zh ?_);case zh=>intro F';exact dv rfl rfl iI iI iI iI (by first|assumption|omega|(simp[al]<;>omega)))|((first|refine dn rfl rfl iI rfl ?_ ?_|refine dm rfl rfl iI rfl ?_ ?_|refine dU rfl rfl iI rfl ?_ ?_)<;>intro hc)|(refine bT ?_;intro g)|(refine bQ ?_;intro g)|((first|refine' bL ?zh ?_|refine' dP ?zh rfl rfl ?_);(case zh=>first|exact ky rfl rfl iI iI iI iI|exact bo rfl rfl iI iI (by first|rfl|(simp only[List.all_cons,List.all_nil, *];rfl)) rfl);intro g)|rw[e]|(refine ai (aa iI rfl (pS w0 b v r last l m i (l.length - 1) _ _ rfl rfl hi hle) iI) rfl ?_;intro g)|(refine IP (aa iI rfl (Hb w0 b (di v (l.length - 1)) r last L _ i l.length _ rfl (by omega) (by omega) (by omega) Ni vT) iI) rfl ?_;intro m3 XW)|(refine IP (aa iI rfl (Gx w0 b (di v (l.length - 1)) r last (ka l.length L i) _ i _ rfl (by rw[(ke _ _ _ (by omega)).length_eq];omega) (by rw[(ke _ _ _ (by omega)).length_eq];omega) XW (vT.perm (ke _ _ _ (by omega)).symm)) iI) rfl ?_;intro m4 XX)|(refine fJ (aq.Nc (v:=v) (l.length - 1)) ?_;rw[hL]))
 ·refine gD (.inl rfl) rfl (aS rfl iI iI rfl) ⟨(),rfl,?_⟩
  rw[yH,if_pos (by omega),SF]
  exact aq.fZ (v:=di v (l.length - 1)) XX (ah)
 ·refine gD (.inl rfl) rfl (aS rfl iI iI rfl) ⟨(),rfl,?_⟩
  rw[yH,if_neg (by omega),SF]
  refine aq.trans (aq.Nc (v:=v) (l.length - 1)) ?_
  rw[hL]
  exact aq.fZ (v:=di v (l.length - 1)) Ni (ah)
end
section
open Go.RowKit
attribute [local irreducible] WS LS cD eM cn cv Spec bA aK
variable (w0:World)
theorem Ep (b r:Nat) (last:Int) (l:List Tm) (now:UInt64) (h:0<l.length→now<(cJ l 0).at_):
 Spec Tryz.prog w0 143 [ptr b 0,u64 now] (fZ b r last l) (fun _:Unit=> .tuple #[.int .i64 0,.bool false]) (fun _=>fZ b r last l):=by
 refine Spec.enter Tryz.func143 rfl Tryz.ntmps143 rfl fun G=> ?_
 simp only[aN]
 refine ru fun v m hm=> ?_
 rcases Nat.eq_zero_or_pos l.length with h0|h0
 ·repeat' (first|(refine ab ?_;intro K hK)|(refine hK _ ?_;clear hK K)|refine ax ?_|(refine aF ?_ ?_<;>intro hc<;>(try simp only[cS]at hc)<;>(try exact aG))|refine aX ?_|refine az ?_)
  exact dF (.inl rfl) rfl (bh rfl) (bh rfl) ⟨(),rfl,aq.fZ (v:=v) hm (ah)⟩
 ·have hz:=hZ h0
  have h1:=h h0
  repeat' (first|(refine ab ?_;intro K hK)|(refine hK _ ?_;clear hK K)|refine ax ?_|(refine aF ?_ ?_<;>intro hc<;>(try simp only[cS]at hc)<;>(try exact aG))|refine aX ?_|refine az ?_)
  exact dF (.inl rfl) rfl (bh rfl) (bh rfl) ⟨(),rfl,aq.fZ (v:=v) hm (ah)⟩
theorem Er (b r:Nat) (last:Int) (l:List Tm) (now:UInt64) (h0:0<l.length) (h1:¬now<(cJ l 0).at_) (hn:vE l) (hl:l.length≤900000):
 Spec Tryz.prog w0 143 [ptr b 0,u64 now] (fZ b r last l) (fun _:Unit=> .tuple #[.int .i64 (cJ l 0).km,.bool true]) (fun _=>fZ b r last (yH l 0)):=by
 refine Spec.enter Tryz.func143 rfl Tryz.ntmps143 rfl fun G=> ?_
 simp only[aN]
 refine ru fun v m hm=> ?_
 have hz:=hZ h0
 repeat' (first|(refine ab ?_;intro K hK)|(refine hK _ ?_;clear hK K)|refine ax ?_|(refine aF ?_ ?_<;>intro hc<;>(try simp only[cS]at hc)<;>(try exact aG))|refine aX ?_|refine az ?_|((refine' LQ ?zh rfl ?_);case zh=>intro F';exact LR rfl iI iI rfl)|(refine fJ (aq.fZ (v:=v) (F:=G) hm (ah)) ?_;refine ai (aa iI rfl (Da w0 b r last l 0 _ rfl h0 hn hl) iI) rfl ?_;intro g))
 exact dF (.inl rfl) rfl (bh rfl) (bh rfl) ⟨(),rfl,ah⟩
theorem Hl:Spec Tryz.prog w0 57 [] emp (fun x:Nat×Nat=>ptr x.1 0) (fun x=>fZ x.1 x.2 0 []):=by
 refine Spec.enter Tryz.func57 rfl Tryz.ntmps57 rfl fun G=> ?_
 simp only[aN]
 repeat' (first|(refine ab ?_;intro K hK)|(refine hK _ ?_;clear hK K)|refine ax ?_|refine az ?_|(refine bT ?_;intro g)|(refine ai (ew i64 i64) rfl ?_;intro r))
 refine gD (.inl rfl) rfl (bh rfl) ⟨(g,r),rfl,?_⟩
 exact aq.fZ (v:= .slice none 0 0) kB.nil (ah)
end
section
open Go.RowKit
attribute [local irreducible] WS LS cD eM cn cv Spec bA aK
variable (w0:World)
def b9 (l:List Rec):List UInt8:=l.flatMap Rec.bytes
theorem yP (l:List Rec) (hl:l.length≤10000) (v:Value) (X:af) [hX:eX w0 X v Rec 3 Rec.cells l]:Spec Tryz.prog w0 116 [v] X (fun m:Value=>m) (fun m=>rows 5 1 bU m (b9 l)*X):=by
 refine Spec.enter Tryz.func116 rfl Tryz.ntmps116 rfl fun G=> ?_
 simp only[aN]
 repeat' (first|(refine ab ?_;intro K hK)|(refine hK _ ?_;clear hK K)|refine ax ?_|refine az ?_)
 refine cV (aq.nil _ 5 1 bU none) ?_
 refine aV (fun m τ=>∃(j:Nat) (u:Value),j+m=l.length∧τ=⟨[(6,v),(7,.int .i64 (l.length:Int)),(8,.int .i64 (j:Int)),(3,u)],[],rows 5 1 bU u (b9 (l.take j))*(X*G)⟩) ?_ ?_
 ·exact⟨l.length,_,⟨0,_,by omega,rfl⟩,cG,rfl,ah⟩
 ·rintro m τ ⟨j,u,SQ,rfl⟩
  rcases Nat.lt_or_ge j l.length with bW|kQ
  ·obtain⟨z,hz⟩:∃z,l[j]? =some z:=⟨_,List.getElem?_eq_getElem bW⟩
   have hb:(b9 (l.take j)).length≤130000:=by
    have:∀l:List Rec,(b9 l).length=13*l.length:=fun l=>by
     induction l with
     |nil=>rfl
     |cons x l ih=>simp only[b9,List.flatMap_cons,List.length_append,Rec.dz,List.length_cons]at ih ⊢;omega
    rw[this];simp;omega
   have O8:=Rec.dz z
   have Ck:=oe w0 z
   repeat' (first|(refine ab ?_;intro K hK)|(refine hK _ ?_;clear hK K)|refine ax ?_|(refine aF ?_ ?_<;>intro hc<;>(try simp only[cS]at hc)<;>(try exact aG))|refine aX ?_|refine az ?_|(refine bT ?_;intro g)|((refine' bL ?zh ?_);(case zh=>exact bo rfl rfl iI iI (by first|rfl|(simp only[List.all_cons,List.all_nil, *];rfl)) rfl);intro g)|(refine ai (aa iI rfl Ck iI) rfl ?_;intro v2)|(refine ai (aR rfl rfl iI iI rfl iI iI mS (by first|omega|(simp[al]<;>omega)) rfl) rfl ?_;intro va))
   refine⟨m - 1,_,by omega,⟨j+1,va,by omega,rfl⟩,cG,rfl,?_⟩
   rw[List.take_add_one,hz,Option.toList_some]
   simp only[b9,List.flatMap_append,List.flatMap_cons,List.flatMap_nil,List.append_nil]
   exact ah
  ·obtain rfl:j=l.length:=by omega
   rw[List.take_length]
   repeat' (first|(refine ab ?_;intro K hK)|(refine hK _ ?_;clear hK K)|refine ax ?_|(refine aF ?_ ?_<;>intro hc<;>(try simp only[cS]at hc)<;>(try exact aG))|refine aX ?_|refine az ?_)
   exact aC (.inl rfl) rfl rfl ⟨u,rfl,ah⟩
end
section
open Go.RowKit
abbrev cP:=List UInt8
structure Rq where
 src:UInt32
 id:UInt32
deriving DecidableEq
structure Sr where
 dest:UInt32
 bK:Int
 aU:Int
 out:Bool
 name:Int
structure dS where
 ay:cP
 replace:Bool
 aJ:List (UInt32×cP)
 cj:List (UInt32×cP)
 dropped:List Int
def dS.zero:dS:=⟨[],false,[],[],[]⟩
structure Nd where
 self:UInt32
 seq:UInt32
 ls:List Ln
 aI:List Rec
 own:UInt32
 held:List (UInt32×UInt32)
 cd:UInt64
 seen:List (Rq×UInt64)
 order:List Rq
 wait:List (UInt32×List cP)
 bu:List Sr
 bI:List Tm
 last:Int
 names:Int
 ids:UInt32
 ff:UInt32
 aP:List UInt64
 now:UInt64
 out:dS
structure NH where
 tb:Nat
 vr:Value
 rh:Nat
 rs:Nat
 vo:Value
 rw:Nat
 rq:Nat
 ri:Nat
 cb:Nat
 cr:Nat
 vs:Value
 vf:Value
 vc:Value
 vd:Value
 sb:List Nat
 wv:List (Option Addr×Nat×Nat)
def sE (r:Rq):List Value:=[u32 r.src,u32 r.id]
@[reducible] def Bt (r:Rq):Value:= .agg (sE r).toArray
def eL (x:UInt64):List Value:=[u64 x]
def jk (s:cP):List Value:=[aZ s]
def dA (x:UInt32×cP):List Value:=[u32 x.1,aZ x.2]
def lr (x:Int):List Value:=[.int .i64 x]
instance:cY sE 2:=⟨fun _=>rfl⟩
instance:cY eL 1:=⟨fun _=>rfl⟩
instance:cY jk 1:=⟨fun _=>rfl⟩
instance:cY dA 2:=⟨fun _=>rfl⟩
instance:cY lr 1:=⟨fun _=>rfl⟩
theorem vX:∀z,∀c∈sE z,c.oneCell'=true:=by intro z c hc;simp[sE]at hc;rcases hc with rfl|rfl<;>rfl
theorem qX:∀z,∀c∈eL z,c.oneCell'=true:=by intro z c hc;simp[eL]at hc;subst hc;rfl
theorem zU:∀z,∀c∈jk z,c.oneCell'=true:=by intro z c hc;simp[jk]at hc;subst hc;rfl
theorem gU:∀z,∀c∈dA z,c.oneCell'=true:=by intro z c hc;simp[dA]at hc;rcases hc with rfl|rfl<;>rfl
theorem Co:∀z,∀c∈lr z,c.oneCell'=true:=by intro z c hc;simp[lr]at hc;subst hc;rfl
@[reducible] def cT (v:Option Addr×Nat×Nat):Value:= .slice v.1 v.2.1 v.2.2
def n5:List (Option Addr×Nat×Nat)→List (UInt32×List cP)→af
 |v::vs,w::ws=>rows 9 1 jk (cT v) w.2*n5 vs ws
 |_,_=>emp
def jA (vs:List (Option Addr×Nat×Nat)) (ws:List (UInt32×List cP)):List (UInt32×(Option Addr×Nat×Nat)):=List.zipWith (fun v w=>(w.1,v)) vs ws
def mA (r:Nat) (vs:List (Option Addr×Nat×Nat)) (ws:List (UInt32×List cP)):af:=pure' (vs.length=ws.length)*(mp u32 cT r (jA vs ws)*n5 vs ws)
def oB (g b:Nat) (s:Sr):List Value:=[u32 s.dest,.int .i64 s.bK,.int .i64 s.aU,.bool s.out,.int .i64 s.name,.func (.func 197) #[ptr b 0] #[],ptr g 0]
def Dn (g:Nat):List Nat→List Sr→af
 |b::bs,s::ss=>aK b 247 (oB g b s)*Dn g bs ss
 |_,_=>emp
def nR (bs:List Nat) (ss:List Sr):List (UInt32×Nat):=List.zipWith (fun b s=>(s.dest,b)) bs ss
def oR (bs:List Nat) (ss:List Sr):List (Int×Nat):=List.zipWith (fun b s=>(s.name,b)) bs ss
def iA (b r:Nat) (last:Int) (L:List Tm):af:=hex fun l=>pure' (TR l L last)*fZ b r last l
theorem qQ {φ:Prop} (h:φ):pure' φ=emp:=by
 unfold pure' emp
 congr 1
 funext x
 simp[h]
def nZ (g:Nat) (bs:List Nat) (ss:List Sr):af:=pure' (bs.length=ss.length)*Dn g bs ss
def eu (g:Nat) (sn:List (Rq×UInt64)) (od:List Rq) (wt:List (UInt32×List cP)) (ss:List Sr) (ck:List Tm) (la:Int) (se:List UInt64) (rs:Nat) (vo:Value) (rw rq ri cb cr:Nat) (vs:Value) (sb:List Nat) (wv:List (Option Addr×Nat×Nat)):af:=
 mp Bt u64 rs sn*(rows 269 2 sE vo od*(mA rw wv wt*(mp u32 gw rq (nR sb ss)*(mp i64 gw ri (oR sb ss)*(nZ g sb ss*(iA cb cr la ck*rows 24 1 eL vs se))))))
def ba (g:Nat) (s:Nd) (h:NH):af:=eu g s.seen s.order s.wait s.bu s.bI s.last s.aP h.rs h.vo h.rw h.rq h.ri h.cb h.cr h.vs h.sb h.wv
def bb (mu:Int) (s:Nd) (h:NH) (o:dS):List Value:=
 [.int .i32 mu,.int .u32 0,u32 s.self,u32 s.seq,ptr h.tb 0,h.vr,u32 s.own,.map (some h.rh),u64 s.cd,.map (some h.rs),h.vo,.map (some h.rw),.map (some h.rq),.map (some h.ri),ptr h.cb 0,.int .i64 s.names,u32 s.ids,u32 s.ff,h.vs,u64 s.now,aZ o.ay,.bool o.replace,h.vf,h.vc,h.vd]
def cw (h:NH) (o:dS):af:=rows 48 2 dA h.vf o.aJ*(rows 70 2 dA h.vc o.cj*rows 166 1 lr h.vd o.dropped)
def aY (mu:Int) (g:Nat) (s:Nd) (h:NH):af:=
 aK g 159 (bb mu s h s.out)*(rows 28 3 Rec.cells h.vr s.aI*(mp u32 u32 h.rh s.held*(dR h.tb s.self s.ls*(cw h s.out*ba g s h))))
@[reducible] def bG (g:Nat) (s:Nd) (h:NH):af:=aY 1 g s h
def eD (g:Nat) (s:Nd):af:=hex fun h=>bG g s h
theorem z8 {P:Program} {n:fT} {w0:World} {E:Env} {D:List Deferred} {F:af} {ops:Array Oper} {l':List Oper} {Q:Exit→St→Prop} {g:Nat} {s:Nd} (h:∀h,LS P n w0 ops Q l' ⟨E,D,bG g s h*F⟩):LS P n w0 ops Q l' ⟨E,D,eD g s*F⟩:=by
 unfold eD
 exact DD h
theorem wA {P:Program} {n:fT} {w0:World} {E:Env} {D:List Deferred} {F:af} {c:Code} {Q:Exit→St→Prop} {g:Nat} {s:Nd} (h:∀h,WS P n w0 c Q ⟨E,D,bG g s h*F⟩):WS P n w0 c Q ⟨E,D,eD g s*F⟩:=by
 unfold eD
 exact iU h
theorem aq.vi {g:Nat} {s:Nd} {H F:af} (h:NH) (e:aq H (bG g s h*F)):aq H (eD g s*F):=aq.mX (p:=fun h=>bG g s h) h e
theorem Pk.Gf (p:Pk):p.out.length≤100000:=by
 by_cases h:p.Fits
 ·rw[Pk.vV h]
  obtain⟨⟨_,_,_,_,h1,h2⟩,_⟩:=h
  unfold Pk.bytes
  repeat' split
  all_goals simp only[List.length_append,List.length_cons,List.length_nil,al,jY]
  all_goals omega
 ·rw[Pk.A7 h];simp
def Nd.write (s:Nd) (r:Rec):Nd:={s with aI:=s.aI++[r],out:={s.out with ay:=s.out.ay++r.bytes},own:=if r.own then r.seq else s.own,held:=if r.own then s.held else bY s.held r.addr r.seq}
def Nd.cf (s:Nd) (l:Ln):Nd:=match bX s.held l.dest with
 |some q=>if q<l.seq then s.write ⟨false,l.dest,l.seq⟩else s
 |none=>s.write ⟨false,l.dest,l.seq⟩
def Nd.dh (s:Nd):Nd:=if s.own<s.seq then s.write ⟨true,0,s.seq⟩else s
def Nd.note (s:Nd):Nd:=(cE s.ls).foldl Nd.cf s.dh
def Nd.begin (s:Nd) (now:UInt64):Nd:={s with now:=now,out:=dS.zero,ls:=mE now s.ls}.note
def Nd.done (s:Nd):Nd:=if 24<s.note.aI.length then {s.note with aI:=cC s.note.aI,out:={s.note.out with ay:=b9 (cC s.note.aI),replace:=true}}else s.note
def Nd.send (s:Nd) (to:UInt32) (p:Pk):Nd:={s with out:={s.out with aJ:=s.out.aJ++[(to,p.out)]}}
def Nd.drop (s:Nd) (k:Int):Nd:={s with out:={s.out with dropped:=s.out.dropped++[k]}}
end
section
open Go.RowKit
attribute [local irreducible] WS LS cD eM cn cv Spec bA aK
variable (w0:World)
theorem mq (mu:Int) (gn:Nat) (s:Nd) (h:NH) (r:Rec) (hr:s.aI.length≤500000) (hj:s.out.ay.length≤900000):Spec Tryz.prog w0 60 [ptr gn 0,.agg r.cells.toArray] (aY mu gn s h) (fun _:Value=> .tuple #[]) (fun vr=>aY mu gn (s.write r) {h with vr:=vr}):=by
 have Ck:=oe w0 r
 have yl:=Rec.dz r
 have er:∀vr,ba gn (s.write r) {h with vr:=vr}=ba gn s h:=fun _=>rfl
 refine Spec.enter Tryz.func60 rfl Tryz.ntmps60 rfl fun G=> ?_
 simp only[aY,er]
 simp only[aN,bb,cw,Nd.write]
 obtain⟨o,a,q⟩:=r
 simp only[Rec.cells]at Ck ⊢
 cases o
 all_goals
  repeat' (first|refine ae (id:=1) (.range 13) 8 [5,6] ?_|refine cL (id:=1) 0 3 (.range 13) 12 [5] ?_|refine ae (id:=2) (.range 13) 6 [4,5] ?_|refine cL (id:=2) 0 3 (.range 13) 12 [4] ?_|refine ae (id:=5) (.range 10) 9 [4,6,8] ?_|(refine ab ?_;intro K hK)|(refine hK _ ?_;clear hK K)|refine ax ?_|(refine aF ?_ ?_<;>intro hc<;>(try simp only[cS]at hc)<;>(try exact aG))|refine az ?_|((first|refine' LQ ?zh rfl ?_|refine' bP rfl rfl rfl ?zh ?_|refine' bk rfl rfl ?zh ?_);case zh=>intro F';exact kP rfl rfl (by first|omega|(simp[al]<;>omega)))|(refine bT ?_;intro g)|((first|refine' ai ?zh rfl ?_|refine' aD ?zh rfl rfl rfl ?_);(case zh=>exact Fx rfl iI rfl iI iI iI);intro g)|(refine bQ ?_;intro g)|((first|refine' bL ?zh ?_|refine' dP ?zh rfl rfl ?_);(case zh=>exact dt rfl rfl rfl iI iI iI iI iI);intro g)|(refine aD (aa iI rfl Ck iI) rfl rfl rfl ?_;intro vb)|(refine aD (au Rec.cells [⟨_,a,q⟩] iI iI iI rfl rfl rfl rfl rfl iI rfl rfl rfl) rfl rfl rfl ?_;intro vx)|(refine aD (aR rfl rfl iI iI rfl iI iI cO (by first|omega|(simp[al]<;>omega)) rfl) rfl rfl rfl ?_;intro va))
 ·exact aj (.inr rfl) rfl ⟨va,rfl,by simp only[Bool.false_eq_true,if_false];exact ah⟩
 ·exact aj (.inr rfl) rfl ⟨va,rfl,by simp only[if_true];exact ah⟩
theorem iE (gn:Nat) (s:Nd) (h:NH) (k:Int) (hd:s.out.dropped.length≤900000):Spec Tryz.prog w0 66 [ptr gn 0,.int .i64 k] (bG gn s h) (fun _:Value=> .tuple #[]) (fun vd=>bG gn (s.drop k) {h with vd:=vd}):=by
 have er:∀vd,ba gn (s.drop k) {h with vd:=vd}=ba gn s h:=fun _=>rfl
 refine Spec.enter Tryz.func66 rfl Tryz.ntmps66 rfl fun G=> ?_
 simp only[bG,aY,er]
 simp only[aN,bb,cw,Nd.drop]
 repeat' (first|refine ax ?_|refine az ?_|(refine bQ ?_;intro g)|(refine ai (au lr [k] iI iI iI rfl rfl rfl rfl rfl iI rfl rfl rfl) rfl ?_;intro vx)|(refine ai (aR rfl rfl iI iI rfl iI iI Co (by first|omega|(simp[al]<;>omega)) rfl) rfl ?_;intro va))
 exact aj (.inr rfl) rfl ⟨va,rfl,ah⟩
theorem lW (gn:Nat) (s:Nd) (h:NH) (to:UInt32) (p:Pk) (hp:p.Ok) (v:Value) (hv:v.oneCell'=true) (X:af) [hX:eX w0 X v (UInt32×UInt32) 2 bB p.lost] (hd:s.out.aJ.length≤900000):Spec Tryz.prog w0 117 [ptr gn 0,u32 to,p.val v] (bG gn s h*X) (fun _:Value=> .tuple #[]) (fun vf=>bG gn (s.send to p) {h with vf:=vf}*X):=by
 have dY:=B1 w0 p hp v X
 have er:∀vf,ba gn (s.send to p) {h with vf:=vf}=ba gn s h:=fun _=>rfl
 have Ri:=p.Gf
 refine Spec.enter Tryz.func117 rfl Tryz.ntmps117 rfl fun G=> ?_
 simp only[bG,aY,er]
 simp only[aN,bb,cw,Nd.send,Pk.val,Pk.cells]at dY ⊢
 repeat' (first|refine ae (id:=2) (.range 16) 8 [5] ?_|refine cK (id:=2) 0 (.range 16) 15 [5] ?_|(refine ab ?_;intro K hK)|(refine hK _ ?_;clear hK K)|refine ax ?_|refine az ?_|(refine bT ?_;intro g)|((first|refine' ai ?zh rfl ?_|refine' aD ?zh rfl rfl rfl ?_);(case zh=>exact Fx rfl iI rfl iI iI iI);intro g)|(refine bQ ?_;intro g)|(refine ai (aa iI rfl dY iI) rfl ?_;intro vb)|(refine aD (au dA [(to,p.out)] iI iI iI rfl rfl rfl rfl rfl iI rfl rfl rfl) rfl rfl rfl ?_;intro vx)|(refine aD (aR rfl rfl iI iI rfl iI iI gU (by first|omega|(simp[al]<;>omega)) rfl) rfl rfl rfl ?_;intro va))
 exact aj (.inr rfl) rfl ⟨va,rfl,ah⟩
end
section
open Go.RowKit
attribute [local irreducible] WS LS cD eM cn cv Spec bA aK
variable (w0:World)
theorem Bo (gt r:Nat) (self:UInt32) (bs:List (Nat×Nat)) (ls:List Ln) (hlen:bs.length=ls.length) (hh:∀l∈ls,0≤l.aH∧l.aH≤1000) (XP:ls.length≤1000) (x:Ln) (hx:x.before=[]) (UQ:x.valid=false) (S7:0≤x.aH∧x.aH≤1000):
 Spec Tryz.prog w0 171 [ptr gt 0,.agg (bM x (.slice none 0 0)).toArray] (dO gt r self bs ls) (fun _:Unit=> .int .i64 (dI self ls x).1) (fun _=>dR gt self (dI self ls x).2):=by
 have qa:=zM w0 gt r self bs ls hlen {x with valid:=true,before:=[]} rfl
 have Rg:(lmap bs ls).length=ls.length:=by simp[lmap,hlen]
 have xj:=l3 (d:=x.dest) hlen
 refine Spec.enter Tryz.func171 rfl Tryz.ntmps171 rfl fun G=> ?_
 simp only[aN,bM,UQ]at qa ⊢
 have h0:(0:UInt32)=0:=rfl
 by_cases h1:x.dest=self
 ·have ju:dI self ls x=(2,ls):=by simp[dI,h1]
  rw[ju]
  simp only[dO]
  repeat' (first|refine ag (id:=1) (.range 12) ?_|(refine ab ?_;intro K hK)|(refine hK _ ?_;clear hK K)|refine ax ?_|(refine aF ?_ ?_<;>intro hc<;>(try simp only[cS]at hc)<;>(try exact aG))|refine aX ?_|refine az ?_|(refine bT ?_;intro g))
  exact aC (.inl rfl) rfl rfl ⟨(),rfl,aq.dR (r:=r) (bs:=bs) hlen (by unfold dO;exact ah)⟩
 ·by_cases h2:x.dest=0
  ·have ju:dI self ls x=(2,ls):=by simp[dI,h2]
   rw[ju]
   simp only[dO]
   repeat' (first|refine ag (id:=1) (.range 12) ?_|(refine ab ?_;intro K hK)|(refine hK _ ?_;clear hK K)|refine ax ?_|(refine aF ?_ ?_<;>intro hc<;>(try simp only[cS]at hc)<;>(try exact aG))|refine aX ?_|refine az ?_|(refine bT ?_;intro g))
   exact aC (.inl rfl) rfl rfl ⟨(),rfl,aq.dR (r:=r) (bs:=bs) hlen (by unfold dO;exact ah)⟩
  ·cases hf:cN ls x.dest with
   |none=>
    have hm:=xj hf
    by_cases h8:8≤ls.length
    ·have ju:dI self ls x=(4,ls):=by simp[dI,h1,h2,jI hf,h8]
     rw[ju]
     simp only[dO]
     repeat' (first|refine ag (id:=1) (.range 12) ?_|refine ag (id:=3) (.range 12) ?_|(refine ab ?_;intro K hK)|(refine hK _ ?_;clear hK K)|refine ax ?_|(refine aF ?_ ?_<;>intro hc<;>(try simp only[cS]at hc)<;>(try exact aG))|refine aX ?_|refine az ?_|((first|refine' LQ ?zh rfl ?_|refine' bk rfl rfl ?zh ?_|refine' gM rfl rfl rfl ?zh ?_);case zh=>intro F';exact iJ rfl rfl iI iI iI iI iI (by assumption))|(refine bT ?_;intro g))
     exact aC (.inl rfl) rfl rfl ⟨(),rfl,aq.dR (r:=r) (bs:=bs) hlen (by unfold dO;exact ah)⟩
    ·have ju:dI self ls x=(0,j8 ls {x with valid:=true,before:=[]}):=by simp[dI,h1,h2,jI hf,h8]
     rw[ju]
     simp only[dO]at qa ⊢
     repeat' (first|refine ag (id:=1) (.range 12) ?_|refine ag (id:=3) (.range 12) ?_|(refine ab ?_;intro K hK)|(refine hK _ ?_;clear hK K)|refine ax ?_|(refine aF ?_ ?_<;>intro hc<;>(try simp only[cS]at hc)<;>(try exact aG))|refine aX ?_|refine az ?_|((first|refine' LQ ?zh rfl ?_|refine' bk rfl rfl ?zh ?_|refine' gM rfl rfl rfl ?zh ?_);case zh=>intro F';exact iJ rfl rfl iI iI iI iI iI (by assumption))|(refine bT ?_;intro g)|(refine bQ ?_;intro g)|(refine ai (aa iI rfl qa iI) rfl ?_;intro u))
     exact aC (.inl rfl) rfl rfl ⟨(),rfl,ah⟩
   |some i=>
    obtain⟨b,rb,l,F,hl,hd,hm,e,e'⟩:=l4 (g:=gt) (r:=r) (self:=self) hlen hf
    obtain⟨JX,SP⟩:=hh l (List.mem_of_getElem? hl)
    have OW:=HS w0 b rb l JX SP
    by_cases h3:(x.seq.toNat:Int)<l.rk∨(x.seq.toNat:Int)=l.rk∧ -x.aH≤ -l.aH
    ·have ju:dI self ls x=(3,ls):=by simp only[dI,h1,h2,eO hf hl,if_pos h3,or_self,if_false]
     rw[ju]
     simp only[e,cU]at OW ⊢
     generalize l.rk=rk at*
     rcases h3 with h3|⟨h3,h4⟩
     all_goals
      repeat' (first|refine ag (id:=1) (.range 12) ?_|refine ag (id:=3) (.range 12) ?_|(refine ab ?_;intro K hK)|(refine hK _ ?_;clear hK K)|refine ax ?_|(refine aF ?_ ?_<;>intro hc<;>(try simp only[cS]at hc)<;>(try exact aG))|refine aX ?_|refine az ?_|((first|refine' LQ ?zh rfl ?_|refine' bk rfl rfl ?zh ?_|refine' gM rfl rfl rfl ?zh ?_);case zh=>intro F';first|exact fD rfl rfl iI iI iI iI iI (by assumption)|exact DF rfl (by omega))|(refine bT ?_;intro g)|(refine ai (aa iI rfl OW iI) rfl ?_;intro u)|(refine lI (lx rfl iI iI iI) rfl ?_))
     all_goals exact aC (.inl rfl) rfl rfl ⟨(),rfl,aq.dR (r:=r) (bs:=bs) hlen (by rw[e];unfold cU;exact ah)⟩
    ·have ju:dI self ls x=(0,j8 ls {x with valid:=true,before:=[]}):=by simp only[dI,h1,h2,eO hf hl,if_neg h3,or_self,if_false]
     rw[ju]
     simp only[e,cU]at OW qa ⊢
     generalize l.rk=rk at*
     have h5:¬(x.seq.toNat:Int)<rk:=fun h=>h3 (.inl h)
     by_cases h4:(x.seq.toNat:Int)=rk
     ·have h6:¬ -x.aH≤ -l.aH:=fun h=>h3 (.inr ⟨h4,h⟩)
      repeat' (first|refine ag (id:=1) (.range 12) ?_|refine ag (id:=3) (.range 12) ?_|(refine ab ?_;intro K hK)|(refine hK _ ?_;clear hK K)|refine ax ?_|(refine aF ?_ ?_<;>intro hc<;>(try simp only[cS]at hc)<;>(try exact aG))|refine aX ?_|refine az ?_|((first|refine' LQ ?zh rfl ?_|refine' bk rfl rfl ?zh ?_|refine' gM rfl rfl rfl ?zh ?_);case zh=>intro F';first|exact fD rfl rfl iI iI iI iI iI (by assumption)|exact DF rfl (by omega))|(refine bT ?_;intro g)|(refine bQ ?_;intro g)|(refine ai (aa iI rfl OW iI) rfl ?_;intro u)|(refine lI (lx rfl iI iI iI) rfl ?_)|(refine ai (aa iI rfl qa iI) rfl ?_;intro u))
      exact aC (.inl rfl) rfl rfl ⟨(),rfl,ah⟩
     ·repeat' (first|refine ag (id:=1) (.range 12) ?_|refine ag (id:=3) (.range 12) ?_|(refine ab ?_;intro K hK)|(refine hK _ ?_;clear hK K)|refine ax ?_|(refine aF ?_ ?_<;>intro hc<;>(try simp only[cS]at hc)<;>(try exact aG))|refine aX ?_|refine az ?_|((first|refine' LQ ?zh rfl ?_|refine' bk rfl rfl ?zh ?_|refine' gM rfl rfl rfl ?zh ?_);case zh=>intro F';exact fD rfl rfl iI iI iI iI iI (by assumption))|(refine bT ?_;intro g)|(refine bQ ?_;intro g)|(refine ai (aa iI rfl OW iI) rfl ?_;intro u)|(refine lI (lx rfl iI iI iI) rfl ?_)|(refine ai (aa iI rfl qa iI) rfl ?_;intro u))
      exact aC (.inl rfl) rfl rfl ⟨(),rfl,ah⟩
end
section
open Go.RowKit
variable (w0:World)
theorem FX {P:Program} {w0:World} {f:FuncId} {args:List Value} {g:Nat} {self:UInt32} {ls:List Ln} {α:Type} {res:α→Value} {A:α→af} {IF:α→List Ln} (hl:∀x,(IF x).length=ls.length)
 (h:∀r bs,bs.length=ls.length→Spec P w0 f args (dO g r self bs ls) res (fun x=>A x*dO g r self bs (IF x))):Spec P w0 f args (dR g self ls) res (fun x=>A x*dR g self (IF x)):=fun G w hs=>by
 obtain⟨x,fP⟩:=Sat.ex (P:=fun x:Nat×List (Nat×Nat)=>pure' (x.2.length=ls.length)*dO g x.1 self x.2 ls) hs
 obtain⟨hlen,qI⟩:=(fP.cast (ad _ _ _)).pure
 refine(h x.1 x.2 hlen G w qI).mono ?_
 rintro e w' ⟨y,he,eI⟩
 refine⟨y,he,?_⟩
 have h1:Sat w0 w' (dO g x.1 self x.2 (IF y)*(A y*G)):=eI.cast (by ac_rfl)
 have h2:=(aq.dR (r:=x.1) (bs:=x.2) (hlen.trans (hl y).symm) (aq.refl _)).sat h1
 exact h2.cast (by ac_rfl)
theorem zr {P:Program} {w0:World} {f:FuncId} {args:List Value} {g:Nat} {self:UInt32} {ls:List Ln} {α:Type} {res:α→Value} {IF:α→List Ln} (hl:∀x,(IF x).length=ls.length)
 (h:∀r bs,bs.length=ls.length→Spec P w0 f args (dO g r self bs ls) res (fun x=>dO g r self bs (IF x))):Spec P w0 f args (dR g self ls) res (fun x=>dR g self (IF x)):=by
 have:=FX (A:=fun _=>emp) hl (fun r bs hlen=>by simp only[aB];exact h r bs hlen)
 simpa only[aB]using this
theorem mm (ls:List Ln) (d:UInt32) (f:Ln→Ln):(lP ls d f).length=ls.length:=by unfold lP;split<;>simp
structure aW (ls:List Ln):Prop where
 nodup:(aO ls).Nodup
 short:ls.length≤8
 aH:∀l∈ls,0≤l.aH∧l.aH≤1000
 before:∀l∈ls,l.before.length≤4
theorem B4 (g:Nat) (self:UInt32) (ls:List Ln) (ok:aW ls) (now:UInt64):Spec Tryz.prog w0 115 [ptr g 0,u64 now] (dR g self ls) (fun _:Unit=> .tuple #[]) (fun _=>dR g self (mE now ls)):=
 zr (fun _=>by simp[mE]) fun r bs hlen=>Az w0 g r self bs ls hlen ok.nodup now
theorem mo (g:Nat) (self:UInt32) (ls:List Ln) (d:UInt32):Spec Tryz.prog w0 67 [ptr g 0,u32 d] (dR g self ls) (fun _:Unit=> .tuple #[u32 (eJ ls d),.bool (dG ls d).isSome]) (fun _=>dR g self ls):=
 zr (fun _=>rfl) fun r bs hlen=>A0 w0 g r self bs ls hlen d
theorem GY (g:Nat) (self:UInt32) (ls:List Ln) (d:UInt32):Spec Tryz.prog w0 180 [ptr g 0,u32 d] (dR g self ls) (fun _:Unit=>u32 (eJ (ia ls d) d)) (fun _=>dR g self (ia ls d)):=
 zr (fun _=>mm _ _ _) fun r bs hlen=>DW w0 g r self bs ls hlen d
theorem pe (g:Nat) (self:UInt32) (ls:List Ln) (d:UInt32) (ex:UInt64):Spec Tryz.prog w0 173 [ptr g 0,u32 d,u64 ex] (dR g self ls) (fun _:Unit=> .tuple #[]) (fun _=>dR g self (iY ls d ex)):=
 zr (fun _=>mm _ _ _) fun r bs hlen=>It w0 g r self bs ls hlen d ex
theorem mf (g:Nat) (self:UInt32) (ls:List Ln) (d nb:UInt32):Spec Tryz.prog w0 176 [ptr g 0,u32 d,u32 nb] (dR g self ls) (fun _:Unit=> .tuple #[]) (fun _=>dR g self (gF ls d nb)):=
 zr (fun _=>mm _ _ _) fun r bs hlen=>Al w0 g r self bs ls hlen d nb
theorem Hz (g:Nat) (self:UInt32) (ls:List Ln) (src d s:UInt32):Spec Tryz.prog w0 178 [ptr g 0,u32 src,.agg #[u32 d,u32 s]] (dR g self ls) (fun _:Unit=> .tuple #[u32 (if fR ls src d then eJ (iS ls src d s) d else 0),.bool (fR ls src d),.bool (fR ls src d&&decide (0<((dG ls d).getD Ln.zero).before.length))]) (fun _=>dR g self (iS ls src d s)):=
 zr (fun _=>mm _ _ _) fun r bs hlen=>EG w0 g r self bs ls hlen src d s
theorem find_spec (g:Nat) (self:UInt32) (ls:List Ln) (ok:aW ls) (d:UInt32) (now:UInt64):Spec Tryz.prog w0 175 [ptr g 0,u32 d,u64 now] (dR g self ls) (fun p:Option Addr×Nat=>fX (bR ls d now) p) (fun p=>fW (bR ls d now) p*dR g self ls):=
 FX (fun _=>rfl) fun r bs hlen=>Ec w0 g r self bs ls hlen (fun l hl=>by have:=ok.before l hl;omega) d now
theorem BT (g:Nat) (self:UInt32) (ls:List Ln) (ok:aW ls) (nb:UInt32):Spec Tryz.prog w0 194 [ptr g 0,u32 nb] (dR g self ls) (fun v:Value=>v) (fun v=>rows 180 2 bB v (jh nb (aQ (aO ls)) ls)*dR g self (nH nb ls)):=
 FX (fun _=>by simp[nH]) fun r bs hlen=>An w0 g r self bs ls hlen ok.nodup (by have:=ok.short;omega) nb
theorem zx (g:Nat) (self:UInt32) (ls:List Ln) (ok:aW ls):Spec Tryz.prog w0 75 [ptr g 0] (dR g self ls) (fun x:Value×List da=>x.1) (fun x=>(pure' (x.2.map (·.1)=cE ls)*(rows 53 7 bJ x.1 x.2*cQ x.2))*dR g self ls):=
 FX (fun _=>rfl) fun r bs hlen=>by
  have:=EE w0 g r self bs ls hlen ok.nodup (by have:=ok.short;omega) (fun l hl=>by have:=ok.before l hl;omega)
  simpa only[ad]using this
theorem uP (g:Nat) (self:UInt32) (ls:List Ln) (ok:aW ls) (x:Ln) (hx:x.before=[]) (UQ:x.valid=false) (S7:0≤x.aH∧x.aH≤1000):
 Spec Tryz.prog w0 171 [ptr g 0,.agg (bM x (.slice none 0 0)).toArray] (dR g self ls) (fun _:Unit=> .int .i64 (dI self ls x).1) (fun _=>dR g self (dI self ls x).2):=by
 have:=Spec.dR (X:=emp) (P:=Tryz.prog) (w0:=w0) (f:=171) (g:=g) (self:=self) (ls:=ls) (fun r bs hlen=>by rw[bl];exact Bo w0 g r self bs ls hlen ok.aH (by have:=ok.short;omega) x hx UQ S7)
 rwa[bl]at this
theorem iO (ls:List Ln):(cE ls).length≤ls.length:=by
 have h1:=List.length_filterMap_le (dG ls) (aQ (aO ls))
 rw[cF]at h1
 simpa [cE,aO]using h1
end
section
open Go.RowKit
def Nd.Room (s:Nd) (k:Nat):Prop:=s.aI.length+k≤500000∧s.out.ay.length+13*k≤900000
theorem Nd.Room.write {s:Nd} {k:Nat} (h:s.Room (k+1)) (r:Rec):(s.write r).Room k:=by
 have hb:=Rec.dz r
 unfold Nd.Room at*
 simp only[Nd.write,List.length_append,List.length_cons,List.length_nil]
 omega
theorem Nd.Room.le {s:Nd} {k m:Nat} (h:s.Room k) (hm:m≤k):s.Room m:=by unfold Nd.Room at*;omega
theorem Nd.Room.cf {s:Nd} {k:Nat} (h:s.Room (k+1)) (l:Ln):(s.cf l).Room k:=by
 unfold Nd.cf
 repeat' split
 all_goals first|exact h.write _|exact h.le (by omega)
theorem Nd.Room.dh {s:Nd} {k:Nat} (h:s.Room (k+1)):s.dh.Room k:=by
 unfold Nd.dh
 split
 ·exact h.write _
 ·exact h.le (by omega)
theorem Nd.Kz (s:Nd) (l:Ln):(s.cf l).ls=s.ls:=by unfold Nd.cf;(repeat' split)<;>rfl
theorem Nd.xO (s:Nd):s.dh.ls=s.ls:=by unfold Nd.dh;split<;>rfl
theorem Nd.Room.oW {k:Nat} (L:List Ln):∀{s:Nd},s.Room (L.length+k)→(L.foldl Nd.cf s).Room k:=by
 induction L with
 |nil=>intro s h;exact h.le (by simp)
 |cons l L ih=>intro s h;exact ih (Nd.Room.cf (h.le (by simp only[List.length_cons];omega)) l)
attribute [local irreducible] WS LS cD eM cn cv Spec bA aK
variable (w0:World)
theorem nk (mu:Int) (gn:Nat) (s:Nd) (h:NH) (hr:s.Room 10) (ok:aW s.ls):Spec Tryz.prog w0 61 [ptr gn 0] (aY mu gn s h) (fun _:Value=> .tuple #[]) (fun vr=>aY mu gn s.note {h with vr:=vr}):=by
 refine Spec.enter Tryz.func61 rfl Tryz.ntmps61 rfl fun G=> ?_
 obtain⟨s1,iu⟩:∃s1,s1=s.dh:=⟨_,rfl⟩
 have hO:=Nd.Room.dh (k:=9) hr
 have U9:aW s.dh.ls:=by rw[Nd.xO];exact ok
 have hn:s.note=(cE s1.ls).foldl Nd.cf s1:=by unfold Nd.note;rw[iu,Nd.xO]
 have Hr:=mq w0 mu gn s h ⟨true,0,s.seq⟩ (by unfold Nd.Room at hr;omega) (by unfold Nd.Room at hr;omega)
 rw[hn]
 rw[←iu]at hO U9
 simp only[aN]
 clear hn
 by_cases ho:s.own<s.seq
 all_goals
  first
  |(have e1:s.write ⟨true,0,s.seq⟩=s1:=by rw[iu];simp[Nd.dh,ho]
    rw[e1]at Hr)
  |(have e1:s1=s:=by rw[iu];simp[Nd.dh,ho]
    subst e1)
  have Rc:=zx w0 h.tb s1.self s1.ls U9
  generalize hL:cE s1.ls=L at*
  have VL:L.length≤8:=by rw[←hL];exact Nat.le_trans (iO _) U9.short
  simp only[aY]at Hr ⊢
  simp only[bb]at Hr ⊢
  repeat' (first|refine ag (id:=0) (.range 10) ?_|(refine ab ?_;intro K hK)|(refine hK _ ?_;clear hK K)|refine ax ?_|(refine aF ?_ ?_<;>intro hc<;>(try simp only[cS]at hc)<;>(try exact aG))|refine aX ?_|refine az ?_|(refine ai (aa iI rfl Hr iI) rfl ?_;intro vr)|(refine ai (aa iI rfl Rc iI) rfl ?_;intro x))
  obtain⟨v,ps⟩:=x
  dsimp only
  obtain⟨h1,JX⟩:∃h1:NH,h1=h∨∃vr,h1={h with vr:=vr}:=⟨_,.inl rfl⟩
  first
  |refine cV (H':=pure' (List.map (fun x=>x.fst) ps=L)*(aY mu gn s1 {h with vr:=vr}*(rows 53 7 bJ v ps*(cQ ps*G)))) (by unfold aY;simp only[bb];exact ah) ?_
  |refine cV (H':=pure' (List.map (fun x=>x.fst) ps=L)*(aY mu gn s1 {h with vr:=h.vr}*(rows 53 7 bJ v ps*(cQ ps*G)))) (by unfold aY;simp only[bb];exact ah) ?_
  refine jR fun Mo=> ?_
  have Mn:ps.length=L.length:=by rw[←Mo];simp
  refine aV (fun k τ=>∃(j:Nat) (vr:Value),j+k=ps.length∧τ=⟨[(29,.int .i64 (j:Int)),(28,.int .i64 (ps.length:Int)),(27,v),(0,ptr gn 0)],[],aY mu gn ((L.take j).foldl Nd.cf s1) {h with vr:=vr}*(rows 53 7 bJ v ps*(cQ ps*G))⟩) ?_ ?_
  ·exact⟨ps.length,_,⟨0,_,by omega,rfl⟩,cG,rfl,by simp only[List.take_zero,List.foldl_nil];exact aq.refl _⟩
  ·rintro k τ ⟨j,vr,ym,rfl⟩
   rcases Nat.lt_or_ge j ps.length with bW|kQ
   ·obtain⟨⟨l,p⟩,hz⟩:∃z,ps[j]? =some z:=⟨_,List.getElem?_eq_getElem bW⟩
    have O8:L[j]? =some l:=by rw[←Mo];simp[hz]
    have gK:(L.take (j+1)).foldl Nd.cf s1=((L.take j).foldl Nd.cf s1).cf l:=by rw[List.take_add_one,O8,Option.toList_some,List.foldl_append];rfl
    have Wf:((L.take j).foldl Nd.cf s1).Room 1:=Nd.Room.oW (k:=1) _ (hO.le (by rw[List.length_take];omega))
    generalize (L.take j).foldl Nd.cf s1=sj at*
    have hw:=mq w0 mu gn sj {h with vr:=vr} ⟨false,l.dest,l.seq⟩ (by unfold Nd.Room at Wf;omega) (by unfold Nd.Room at Wf;omega)
    obtain⟨ld,lq,lh,ln,lv,le,lb⟩:=l
    simp only at hw gK
    simp only[aY]at hw ⊢
    simp only[bb]at hw ⊢
    cases hm:bX sj.held ld with
    |none=>
     have jf:sj.cf ⟨ld,lq,lh,ln,lv,le,lb⟩=sj.write ⟨false,ld,lq⟩:=by simp[Nd.cf,hm]
     rw[jf]at gK
     repeat' (first|refine ag (id:=5) (.range 13) ?_|(refine ab ?_;intro K hK)|(refine hK _ ?_;clear hK K)|refine ax ?_|(refine aF ?_ ?_<;>intro hc<;>(try simp only[cS]at hc)<;>(try exact aG))|refine aX ?_|refine az ?_|((first|refine' LQ ?zh rfl ?_|refine' bk rfl rfl ?zh ?_);case zh=>intro F';exact iJ rfl rfl iI iI iI iI iI (by assumption))|(refine bT ?_;intro g)|((refine' bL ?zh ?_);(case zh=>exact bo rfl rfl iI iI (by first|rfl|(simp only[List.all_cons,List.all_nil, *];rfl)) rfl);intro g)|(refine ai (aa iI rfl hw iI) rfl ?_;intro Vp))
     exact⟨k - 1,_,by omega,⟨j+1,Vp,by omega,rfl⟩,cG,rfl,by rw[gK];dsimp only;exact ah⟩
    |some q=>
     by_cases hq:q<lq
     ·have jf:sj.cf ⟨ld,lq,lh,ln,lv,le,lb⟩=sj.write ⟨false,ld,lq⟩:=by simp[Nd.cf,hm,hq]
      rw[jf]at gK
      repeat' (first|refine ag (id:=5) (.range 13) ?_|(refine ab ?_;intro K hK)|(refine hK _ ?_;clear hK K)|refine ax ?_|(refine aF ?_ ?_<;>intro hc<;>(try simp only[cS]at hc)<;>(try exact aG))|refine aX ?_|refine az ?_|((first|refine' LQ ?zh rfl ?_|refine' bk rfl rfl ?zh ?_);case zh=>intro F';exact fD rfl rfl iI iI iI iI iI (by assumption))|(refine bT ?_;intro g)|((refine' bL ?zh ?_);(case zh=>exact bo rfl rfl iI iI (by first|rfl|(simp only[List.all_cons,List.all_nil, *];rfl)) rfl);intro g)|(refine ai (aa iI rfl hw iI) rfl ?_;intro Vp))
      exact⟨k - 1,_,by omega,⟨j+1,Vp,by omega,rfl⟩,cG,rfl,by rw[gK];dsimp only;exact ah⟩
     ·have jf:sj.cf ⟨ld,lq,lh,ln,lv,le,lb⟩=sj:=by simp[Nd.cf,hm,hq]
      rw[jf]at gK
      repeat' (first|refine ag (id:=5) (.range 13) ?_|(refine ab ?_;intro K hK)|(refine hK _ ?_;clear hK K)|refine ax ?_|(refine aF ?_ ?_<;>intro hc<;>(try simp only[cS]at hc)<;>(try exact aG))|refine aX ?_|refine az ?_|((first|refine' LQ ?zh rfl ?_|refine' bk rfl rfl ?zh ?_);case zh=>intro F';exact fD rfl rfl iI iI iI iI iI (by assumption))|(refine bT ?_;intro g)|((refine' bL ?zh ?_);(case zh=>exact bo rfl rfl iI iI (by first|rfl|(simp only[List.all_cons,List.all_nil, *];rfl)) rfl);intro g)|fail)
      exact⟨k - 1,_,by omega,⟨j+1,vr,by omega,rfl⟩,cG,rfl,by rw[gK];dsimp only;exact ah⟩
   ·obtain rfl:j=ps.length:=by omega
    rw[List.take_of_length_le (by omega)]
    generalize L.foldl Nd.cf s1=sj at*
    simp only[aY]
    simp only[bb]
    repeat' (first|(refine ab ?_;intro K hK)|(refine hK _ ?_;clear hK K)|refine ax ?_|(refine aF ?_ ?_<;>intro hc<;>(try simp only[cS]at hc)<;>(try exact aG))|refine aX ?_)
    exact aj (.inr rfl) rfl ⟨vr,rfl,ah⟩
end
section
open Go.RowKit
set_option maxRecDepth 100000
noncomputable def R8 (f:Func):Nat:=f.params.toList.headD 0
noncomputable def U2:Go.Conc.Locks.MuLink:={lock:=62,unlock:=63,ilock:=113,iunlock:=114,lockSlow:=164,unlockSlow:=167,disable:=160,enable:=162,acquire:=163,relMerge:=165,cas32:=161,add32:=166,tMutex:=155,tIMutex:=153,tPMutex:=R8 Tryz.f62,tPIMutex:=R8 Tryz.f113,tPI32:=261,tUP:=263,tNoCopy:=151,tU32:=26}
theorem Nv:Go.Conc.Locks.MuLib Tryz.prog U2:={
 f_lock:=Tryz.func62.trans (congrArg some (by kernel_rfl)),
 f_unlock:=Tryz.func63.trans (congrArg some (by kernel_rfl)),
 f_ilock:=Tryz.func113.trans (congrArg some (by kernel_rfl)),
 f_iunlock:=Tryz.func114.trans (congrArg some (by kernel_rfl)),
 f_disable:=Tryz.func160.trans (congrArg some (by kernel_rfl)),
 f_enable:=Tryz.func162.trans (congrArg some (by kernel_rfl)),
 f_acquire:=Tryz.func163.trans (congrArg some (by kernel_rfl)),
 f_relMerge:=Tryz.func165.trans (congrArg some (by kernel_rfl)),
 f_cas32:=Tryz.func161.trans (congrArg some (by kernel_rfl)),
 f_add32:=Tryz.func166.trans (congrArg some (by kernel_rfl)),
 underlying_tIMutex:=by kernel_rfl,
 runUnderlying_tIMutex:=fun w=>by kernel_rfl,
 sizeOf_tIMutex:=fun w=>by kernel_rfl,
 isAgg_tIMutex:=fun w=>by kernel_rfl,
 zeroValue_tIMutex:=fun w=>by kernel_rfl,
 underlying_tMutex:=by kernel_rfl,
 runUnderlying_tMutex:=fun w=>by kernel_rfl,
 sizeOf_tMutex:=fun w=>by kernel_rfl,
 isAgg_tMutex:=fun w=>by kernel_rfl,
 zeroValue_tMutex:=fun w=>by kernel_rfl,
 underlying_tPMutex:=by kernel_rfl,
 runUnderlying_tPMutex:=fun w=>by kernel_rfl,
 sizeOf_tPMutex:=fun w=>by kernel_rfl,
 isAgg_tPMutex:=fun w=>by kernel_rfl,
 zeroValue_tPMutex:=fun w=>by kernel_rfl,
 underlying_tPIMutex:=by kernel_rfl,
 runUnderlying_tPIMutex:=fun w=>by kernel_rfl,
 sizeOf_tPIMutex:=fun w=>by kernel_rfl,
 isAgg_tPIMutex:=fun w=>by kernel_rfl,
 zeroValue_tPIMutex:=fun w=>by kernel_rfl,
 underlying_tPI32:=by kernel_rfl,
 runUnderlying_tPI32:=fun w=>by kernel_rfl,
 sizeOf_tPI32:=fun w=>by kernel_rfl,
 isAgg_tPI32:=fun w=>by kernel_rfl,
 zeroValue_tPI32:=fun w=>by kernel_rfl,
 underlying_tUP:=by kernel_rfl,
 runUnderlying_tUP:=fun w=>by kernel_rfl,
 sizeOf_tUP:=fun w=>by kernel_rfl,
 isAgg_tUP:=fun w=>by kernel_rfl,
 zeroValue_tUP:=fun w=>by kernel_rfl,
 underlying_tNoCopy:=by kernel_rfl,
 runUnderlying_tNoCopy:=fun w=>by kernel_rfl,
 sizeOf_tNoCopy:=fun w=>by kernel_rfl,
 isAgg_tNoCopy:=fun w=>by kernel_rfl,
 zeroValue_tNoCopy:=fun w=>by kernel_rfl,
 underlying_t21:=by kernel_rfl,
 runUnderlying_t21:=fun w=>by kernel_rfl,
 sizeOf_t21:=fun w=>by kernel_rfl,
 isAgg_t21:=fun w=>by kernel_rfl,
 zeroValue_t21:=fun w=>by kernel_rfl,
 room_tIMutex:=by kernel_rfl}
variable (w0:World)
theorem tO (g:Nat) (t:TypeId) (cs:List Value):Spec Tryz.prog w0 62 [ptr g 0] (aK g t (.int .i32 0::cs)) (fun _:Unit=> .tuple #[]) (fun _=>aK g t (.int .i32 1::cs)):=by
 intro G w hs
 have hc:w.cell? ⟨g,0,none⟩=some (.int .i32 0):=by have:=Sat.cell hs 0;simpa using this
 have hz:w.frozen? ⟨g,0,none⟩=false:=Sat.frozen hs 0
 refine(Go.MuLone.lock_free (L:=U2) Nv ⟨g,0,none⟩ w hc hz).mono ?_
 rintro e w' ⟨rfl,rfl⟩
 refine⟨(),rfl,?_⟩
 have:=Sat.set hs 0 (.int .i32 1)
 exact this.cast (by simp[aK])
theorem AM (g:Nat) (t:TypeId) (cs:List Value):Spec Tryz.prog w0 114 [ptr g 0] (aK g t (.int .i32 1::cs)) (fun _:Unit=> .tuple #[]) (fun _=>aK g t (.int .i32 0::cs)):=by
 intro G w hs
 have hc:w.cell? ⟨g,0,none⟩=some (.int .i32 1):=by have:=Sat.cell hs 0;simpa using this
 have hz:w.frozen? ⟨g,0,none⟩=false:=Sat.frozen hs 0
 refine(Go.MuLone.iunlock_held (L:=U2) Nv ⟨g,0,none⟩ w hc hz).mono ?_
 rintro e w' ⟨rfl,rfl⟩
 refine⟨(),rfl,?_⟩
 have:=Sat.set hs 0 (.int .i32 0)
 exact this.cast (by simp[aK])
attribute [local irreducible] WS LS cD eM cn cv Spec bA aK
theorem sQ {u:FrameMode} {K:FrameMode→af→Prop} {g:Nat} {t:TypeId} {cs nv:List Value} {H F:af} (hl:cZ H g t nv F) (hc:nv= .int .i32 1::cs) (hk:K u (aK g t (.int .i32 0::cs)*F)):iQ Tryz.prog w0 63 [ptr g 0] u H K:=by
 rw[hl.eq,hc]
 have p1:=AM w0 g t cs
 refine iQ.enter Tryz.func63 rfl Tryz.ntmps63 rfl ?_
 simp only[aN]
 repeat' (first|refine ax ?_|refine az ?_|(refine ai (aa iI rfl p1 iI) rfl ?_;intro g))
 exact aj (.inr rfl) rfl hk
end
section
open Go.RowKit
theorem aW.set {ls:List Ln} (h:aW ls) {i:Nat} {l x:Ln} (hl:ls[i]? =some l) (hd:x.dest=l.dest) (h1:0≤x.aH∧x.aH≤1000) (h2:x.before.length≤4):aW (ls.set i x):=by
 obtain⟨bW,he⟩:=List.getElem?_eq_some_iff.1 hl
 have e:aO (ls.set i x)=aO ls:=by
  unfold aO
  rw[List.map_set,hd,←he]
  apply List.ext_getElem?
  intro k
  rw[List.getElem?_set]
  split
  ·rename_i hk;subst hk;simp[bW]
  ·rfl
 refine⟨by rw[e];exact h.nodup,by simp;exact h.short,fun y hy=> ?_,fun y hy=> ?_⟩
 ·rcases List.mem_or_eq_of_mem_set hy with hy|rfl
  ·exact h.aH y hy
  ·exact h1
 ·rcases List.mem_or_eq_of_mem_set hy with hy|rfl
  ·exact h.before y hy
  ·exact h2
theorem aW.mod {ls:List Ln} (h:aW ls) (d:UInt32) (f:Ln→Ln) (hd:∀l∈ls,(f l).dest=l.dest) (h1:∀l∈ls,0≤(f l).aH∧(f l).aH≤1000) (h2:∀l∈ls,(f l).before.length≤4):aW (lP ls d f):=by
 cases hf:cN ls d with
 |none=>rw[lP,hf];exact h
 |some i=>
  obtain⟨l,hl,_⟩:=dw hf
  rw[fm hf hl]
  have hm:=List.mem_of_getElem? hl
  exact h.set hl (hd l hm) (h1 l hm) (h2 l hm)
theorem aW.map {ls:List Ln} (h:aW ls) (f:Ln→Ln) (hd:∀l∈ls,(f l).dest=l.dest) (h1:∀l∈ls,0≤(f l).aH∧(f l).aH≤1000) (h2:∀l∈ls,(f l).before.length≤4):aW (ls.map f):=by
 have e:aO (ls.map f)=aO ls:=by
  unfold aO
  rw[List.map_map]
  exact List.map_congr_left hd
 refine⟨by rw[e];exact h.nodup,by simp;exact h.short,fun y hy=> ?_,fun y hy=> ?_⟩
 all_goals
  obtain⟨l,hl,rfl⟩:=List.mem_map.1 hy
  first|exact h1 l hl|exact h2 l hl
theorem aW.exp {ls:List Ln} (h:aW ls) (now:UInt64):aW (mE now ls):=by
 refine h.map _ (fun l hl=> ?_) (fun l hl=> ?_) (fun l hl=> ?_)
 all_goals
  have h1:=h.aH l hl
  have h2:=h.before l hl
  unfold Ln.exp
  split<;>simp_all [Ln.ended]
theorem aW.brk {ls:List Ln} (h:aW ls) (nb:UInt32):aW (nH nb ls):=by
 refine h.map _ (fun l hl=> ?_) (fun l hl=> ?_) (fun l hl=> ?_)
 all_goals
  have h1:=h.aH l hl
  have h2:=h.before l hl
  unfold Ln.brk
  split<;>simp_all [Ln.ended]
theorem aW.use {ls:List Ln} (h:aW ls) (d:UInt32) (e:UInt64):aW (iY ls d e):=by
 refine h.mod _ _ (fun l hl=> ?_) (fun l hl=> ?_) (fun l hl=> ?_)
 all_goals
  have h1:=h.aH l hl
  have h2:=h.before l hl
  split<;>simp_all
theorem aW.bump {ls:List Ln} (h:aW ls) (d:UInt32):aW (ia ls d):=by
 refine h.mod _ _ (fun l hl=> ?_) (fun l hl=> ?_) (fun l hl=> ?_)
 all_goals
  have h1:=h.aH l hl
  have h2:=h.before l hl
  simp_all
theorem aW.gI {ls:List Ln} (h:aW ls) (src d s:UInt32):aW (iS ls src d s):=by
 refine h.mod _ _ (fun l hl=> ?_) (fun l hl=> ?_) (fun l hl=> ?_)
 all_goals
  have h1:=h.aH l hl
  have h2:=h.before l hl
  split<;>simp_all [Ln.ended]
theorem Dh (bs:List UInt32) (n:UInt32):(sI bs n).length≤bs.length+1:=by
 unfold sI bY
 split<;>simp
theorem aW.FK {ls:List Ln} (h:aW ls) (d nb:UInt32):aW (gF ls d nb):=by
 refine h.mod _ _ (fun l hl=> ?_) (fun l hl=> ?_) (fun l hl=> ?_)
 all_goals
  have h1:=h.aH l hl
  have h2:=h.before l hl
  have h3:=Dh l.before nb
  split<;>simp_all
 omega
theorem Cz {d:UInt32} {ls:List Ln} (h:cN ls d=none):d∉aO ls:=by
 intro hm
 obtain⟨l,hl,e⟩:=List.mem_map.1 hm
 exact lN.1 h l hl e
theorem aW.put {ls:List Ln} (h:aW ls) (x:Ln) (hs:cN ls x.dest=none→ls.length<8) (h1:0≤x.aH∧x.aH≤1000) (h2:x.before.length≤4):aW (j8 ls x):=by
 unfold j8
 cases hf:cN ls x.dest with
 |some i=>
  obtain⟨l,hl,hd⟩:=dw hf
  exact h.set hl hd.symm h1 h2
 |none=>
  have hn:=Cz hf
  have bW:=hs hf
  refine⟨?_,by simp;omega,fun y hy=> ?_,fun y hy=> ?_⟩
  ·have e:aO (ls++[x])=aO ls++[x.dest]:=by simp[aO]
   rw[e]
   exact List.nodup_append.2 ⟨h.nodup,by simp,fun a ha b hb=>by simp at hb;subst hb;exact fun e=>hn (e▸ha)⟩
  all_goals
   rcases List.mem_append.1 hy with hy|hy
   ·first|exact h.aH y hy|exact h.before y hy
   ·simp at hy;subst hy;first|exact h1|exact h2
theorem aW.La {ls:List Ln} (h:aW ls) (self:UInt32) (x:Ln) (h1:0≤x.aH∧x.aH≤1000):aW (dI self ls x).2:=by
 unfold dI
 split
 ·exact h
 ·cases hg:dG ls x.dest with
  |some l=>
   dsimp only
   split
   ·exact h
   ·refine h.put _ (fun hf=> ?_) h1 (by simp)
    simp only at hf
    rw[jI hf]at hg
    cases hg
  |none=>
   dsimp only
   split
   ·exact h
   ·exact h.put _ (fun _=>by omega) h1 (by simp)
theorem aW.nil:aW []:=⟨by simp[aO],by simp,by simp,by simp⟩
theorem aW.new (self:UInt32) (c:List Rec):aW (iV self c):=by
 induction c using eE with
 |nil=>exact aW.nil
 |snoc c r ih=>
  rw[pJ]
  unfold fe
  split
  ·rename_i hc
   exact ih.put _ (fun _=>hc.2.2) (by simp[Rec.ln]) (by simp[Rec.ln])
  ·exact ih
end
section
open Go.RowKit
section
variable {P:Program} {n:fT} {w0:World} {E:Env} {D:List Deferred} {H F:af} {ops:Array Oper} {l':List Oper} {Q:Exit→St→Prop} {d:Option Tmp} {ty:TypeId} {pos:String} {after:Array Edge} {gu:Option (Tmp×Bool)}
theorem IK {t:Tmp} {f:FuncId} {args im:List Value} {α:Type} {X:af} {res:α→Value} {post:α→af} {xs:List Operand} {ts:Array TypeId} (hf:aA P f) (ht:E.get t=some (.func (.func f) #[] im.toArray)) (eB:E.mU xs=some args) (spec:Spec P w0 f (args++im) X res post) (hl:Own H X F):
 cn P n w0 ⟨d,.call ⟨.value (.tmp t),xs.toArray,ts⟩,ty,pos,after,gu⟩ E H res (fun x=>post x*F):=cn.mk' (LY hf ht eB spec) hl.eq
end
def jg (g:Nat) (s:Nd):af:=hex fun p:NH×dS=>aK g 159 (bb 0 s p.1 p.2)*(rows 28 3 Rec.cells p.1.vr s.aI*(mp u32 u32 p.1.rh s.held*(dR p.1.tb s.self s.ls*ba g s p.1)))
theorem rv {P:Program} {n:fT} {w0:World} {E:Env} {D:List Deferred} {F:af} {c:Code} {Q:Exit→St→Prop} {g:Nat} {s:Nd} (h:∀(h:NH) (o:dS),WS P n w0 c Q ⟨E,D,(aK g 159 (bb 0 s h o)*(rows 28 3 Rec.cells h.vr s.aI*(mp u32 u32 h.rh s.held*(dR h.tb s.self s.ls*ba g s h))))*F⟩):WS P n w0 c Q ⟨E,D,jg g s*F⟩:=by
 unfold jg
 exact iU fun p=>h p.1 p.2
theorem jc {g:Nat} {s:Nd} {H F:af} (h:NH) (o:dS) (e:aq H ((aK g 159 (bb 0 s h o)*(rows 28 3 Rec.cells h.vr s.aI*(mp u32 u32 h.rh s.held*(dR h.tb s.self s.ls*ba g s h))))*F)):aq H (jg g s*F):=aq.mX (p:=fun p:NH×dS=>aK g 159 (bb 0 s p.1 p.2)*(rows 28 3 Rec.cells p.1.vr s.aI*(mp u32 u32 p.1.rh s.held*(dR p.1.tb s.self s.ls*ba g s p.1)))) (h,o) e
def fp (o:dS) (v:Value×Value×Value):Value:= .agg #[aZ o.ay,.bool o.replace,v.1,v.2.1,v.2.2]
def ei (o:dS) (v:Value×Value×Value):af:=rows 48 2 dA v.1 o.aJ*(rows 70 2 dA v.2.1 o.cj*rows 166 1 lr v.2.2 o.dropped)
theorem Nd.EP (s:Nd) (l:Ln):(s.cf l).aI.length≤s.aI.length+1:=by
 unfold Nd.cf
 (repeat' split)<;>simp[Nd.write]
theorem Nd.ET (s:Nd):s.dh.aI.length≤s.aI.length+1:=by
 unfold Nd.dh
 split<;>simp[Nd.write]
theorem Nd.CS (L:List Ln):∀s:Nd,(L.foldl Nd.cf s).aI.length≤s.aI.length+L.length:=by
 induction L with
 |nil=>intro s;simp
 |cons l L ih=>intro s;have h1:=ih (s.cf l);have h2:=s.EP l;simp only[List.foldl_cons,List.length_cons];omega
theorem Nd.nj (s:Nd) (ok:aW s.ls):s.note.aI.length≤s.aI.length+9:=by
 have h1:=Nd.CS (cE s.ls) s.dh
 have h2:=s.ET
 have h3:=iO s.ls
 have h4:=ok.short
 unfold Nd.note
 omega
attribute [local irreducible] WS LS cD eM cn cv Spec bA aK
variable (w0:World)
theorem pB {β:Type} (gn:Nat) (s s2:Nd) (now:UInt64) (hr:s.aI.length≤400000) (ok:aW s.ls) (Lu:s2.aI.length≤9000) (V0:s2.out.ay.length≤800000) (Px:aW s2.ls) (fc:FuncId) (im:List Value) (X:af) (Y:β→af) [hf:aA Tryz.prog fc]
 (Dy:Spec Tryz.prog w0 fc im (eD gn (s.begin now)*X) (fun _:β=> .tuple #[]) (fun y=>eD gn s2*Y y)):
 Spec Tryz.prog w0 64 [ptr gn 0,u64 now,.func (.func fc) #[] im.toArray] (jg gn s*X) (fun x:(Value×Value×Value)×β=>fp s2.done.out x.1) (fun x=>jg gn s2.done*(ei s2.done.out x.1*Y x.2)):=by
 refine Spec.jr Tryz.func64 rfl Tryz.ntmps64 rfl fun G=> ?_
 rw[ad]
 refine rv fun h o=> ?_
 simp only[aN,bb]
 have p1:=tO w0 gn 159 (bb 0 s h o).tail
 have p2:=B4 w0 h.tb s.self s.ls ok now
 simp only[bb,List.tail_cons]at p1
 repeat' (first|(refine ab ?_;intro K hK)|(refine hK _ ?_;clear hK K)|refine ax ?_|refine az ?_|(refine bQ ?_;intro g)|(refine ai (ph iI) rfl ?_;intro go)|(refine ai (aa iI rfl p1 iI) rfl ?_;intro u1)|(refine ai (aa iI rfl p2 iI) rfl ?_;intro u2)|refine we rfl rfl rfl ?_)
 simp only[Env.hJ]
 obtain⟨h1,JX⟩:∃h1:NH,h1={h with vf:= .slice none 0 0,vc:= .slice none 0 0,vd:= .slice none 0 0}:=⟨_,rfl⟩
 obtain⟨s1,iu⟩:∃s1:Nd,s1={s with now:=now,out:=dS.zero,ls:=mE now s.ls}:=⟨_,rfl⟩
 have eb:s.begin now=s1.note:=by rw[iu];rfl
 have p3:=nk w0 1 gn s1 h1 (by rw[iu];unfold Nd.Room;simp only[dS.zero,List.length_nil];omega) (by rw[iu];exact ok.exp now)
 have er:ba gn s h=ba gn s1 h1:=by rw[iu,JX];rfl
 refine fJ (aq.nil _ 48 2 dA none) ?_
 refine fJ (aq.nil _ 70 2 dA none) ?_
 refine fJ (aq.nil _ 166 1 lr none) ?_
 refine fJ (H':=bG gn s1 h1*(aK go 35 [aZ [],.bool false,.slice none 0 0,.slice none 0 0,.slice none 0 0]*(X*G))) (by rw[er];rw[iu,JX];simp only[bG,aY,bb,cw,dS.zero];exact ah) ?_
 clear er
 repeat' (first|(refine ab ?_;intro K hK)|(refine hK _ ?_;clear hK K)|refine ax ?_|refine az ?_|(refine ai (aa iI rfl p3 iI) rfl ?_;intro v3))
 refine fJ (aq.vi (g:=gn) (s:=s1.note) (F:=X*(aK go 35 [aZ [],.bool false,.slice none 0 0,.slice none 0 0,.slice none 0 0]*G)) {h1 with vr:=v3} (ah)) ?_
 rw[←eb]
 repeat' (first|(refine ab ?_;intro K hK)|(refine hK _ ?_;clear hK K)|refine ax ?_|refine az ?_|(refine ai (IK hf rfl rfl Dy iI) rfl ?_;intro y))
 rw[ad]
 refine z8 fun h2=> ?_
 have p4:=nk w0 1 gn s2 h2 ⟨by omega,by omega⟩ Px
 have vT:=Nd.nj s2 Px
 have Dy:=iM s2.note.aI
 simp only[bG,aY,cw]at p4 ⊢
 simp only[bb]at p4 ⊢
 by_cases hm:24<s2.note.aI.length
 ·have p5:=fun v=>qv w0 s2.note.aI (by omega) v (rows 28 3 Rec.cells v s2.note.aI)
  have p6:=fun v=>yP w0 (cC s2.note.aI) (by omega) v (rows 28 3 Rec.cells v (cC s2.note.aI))
  have hd:s2.done={s2.note with aI:=cC s2.note.aI,out:={s2.note.out with ay:=b9 (cC s2.note.aI),replace:=true}}:=by unfold Nd.done;rw[if_pos hm]
  repeat' (first|(refine ab ?_;intro K hK)|(refine hK _ ?_;clear hK K)|refine ax ?_|(refine aF ?_ ?_<;>intro hc<;>(try simp only[cS]at hc)<;>(try exact aG))|refine aX ?_|refine az ?_|((refine' LQ ?zh rfl ?_);case zh=>intro F';exact kY rfl iI rfl iI iI iI)|(refine bQ ?_;intro g)|(refine ai (aa iI rfl p4 iI) rfl ?_;intro v4)|(refine ai (aa iI rfl (p5 _) iI) rfl ?_;intro vc)|(refine ai (aa iI rfl (p6 _) iI) rfl ?_;intro vb))
  refine sx (pH (u:= .returning) (im:=[]) (args:=[ptr gn 0]) (by simp) iI ?_)
  refine sQ w0 iI rfl ?_
  refine mn rfl (aS rfl iI iI rfl) ⟨((h2.vf,h2.vc,h2.vd),y),by rw[hd];rfl,?_⟩
  rw[hd]
  unfold ei
  rw[ad (jg _ _)]
  refine jc {h2 with vr:=vc} {s2.note.out with ay:=b9 (cC s2.note.aI),replace:=true} ?_
  have er:ba gn {s2.note with aI:=cC s2.note.aI,out:={s2.note.out with ay:=b9 (cC s2.note.aI),replace:=true}} {h2 with vr:=vc}=ba gn s2.note {h2 with vr:=v4}:=rfl
  dsimp only
  rw[er]
  simp only[bb]
  exact ah
 ·have hd:s2.done=s2.note:=by unfold Nd.done;rw[if_neg hm]
  repeat' (first|(refine ab ?_;intro K hK)|(refine hK _ ?_;clear hK K)|refine ax ?_|(refine aF ?_ ?_<;>intro hc<;>(try simp only[cS]at hc)<;>(try exact aG))|refine aX ?_|refine az ?_|(refine bQ ?_;intro g)|(refine ai (aa iI rfl p4 iI) rfl ?_;intro v4))
  refine sx (pH (u:= .returning) (im:=[]) (args:=[ptr gn 0]) (by simp) iI ?_)
  refine sQ w0 iI rfl ?_
  refine mn rfl (aS rfl iI iI rfl) ⟨((h2.vf,h2.vc,h2.vd),y),by rw[hd];rfl,?_⟩
  rw[hd]
  unfold ei
  rw[ad (jg _ _)]
  refine jc {h2 with vr:=v4} s2.note.out ?_
  simp only[bb]
  exact ah
end
section
open Go.RowKit
abbrev SO:=Option Addr×Nat×Nat
def PJ:Value→SO
 | .slice A n c=>(A,n,c)
 |_=>(none,0,0)
def yo (x:SO×SO×SO):Value×Value×Value:=(cT x.1,cT x.2.1,cT x.2.2)
def lZ (v:Value×Value×Value):SO×SO×SO:=(PJ v.1,PJ v.2.1,PJ v.2.2)
theorem eR {w0 w:World} {o:dS} {v:Value×Value×Value} {F:af} (h:Sat w0 w (ei o v*F)):yo (lZ v)=v:=by
 unfold ei at h
 have e (a b c d:af):a*(b*c)*d=a*(b*(c*d)):=by rw[ad,ad]
 rw[e]at h
 obtain⟨A1,c1,e1⟩:=gz h
 have h2:=h
 rw[aM]at h2
 obtain⟨A2,c2,e2⟩:=gz h2
 have h3:=h
 rw[aM (rows _ _ _ v.2.1 _),aM]at h3
 obtain⟨A3,c3,e3⟩:=gz h3
 obtain⟨v1,v2,v3⟩:=v
 simp only at e1 e2 e3
 subst e1 e2 e3
 rfl
theorem Spec.oo {P:Program} {w0:World} {f:FuncId} {args:List Value} {X:af} {α β:Type} {res:α→Value} {post:α→af} (h:Spec P w0 f args X res post) (φ:β→α) (ψ:α→β) (hi:∀x w F,Sat w0 w (post x*F)→φ (ψ x)=x):Spec P w0 f args X (fun y=>res (φ y)) (fun y=>post (φ y)):=fun G w hs=>(h G w hs).mono fun e w' ⟨x,he,hx⟩=>⟨ψ x,by show e= .returned (res (φ (ψ x)));rw[hi x w' G hx];exact he,by show Sat w0 w' (post (φ (ψ x))*G);rw[hi x w' G hx];exact hx⟩
theorem Ad {P:Program} {n:fT} {w0:World} {E:Env} {D:List Deferred} {H F:af} {Q:Exit→St→Prop} {c:Code} {α:Type} {e:TypeId} {size:Nat} {f:α→List Value} {l:List α} (v:Value) (hl:dD H v α e size f l F) (h:l.length≤maxLen→(∀A k q,v= .slice A k q→k=l.length)→WS P n w0 c Q ⟨E,D,H⟩):WS P n w0 c Q ⟨E,D,H⟩:=fun a w g=>by
 have hs:=g.sat.cast hl.eq
 unfold rows at hs
 obtain⟨_,⟨A,hv,h0,_⟩|⟨g',off,cap,cur,fr,hv,h1,h2,_⟩⟩:=hs.jN
 ·exact h (by omega) (fun A' k q e=>by rw[hv]at e;cases e;exact h0.symm) a w g
 ·exact h (by omega) (fun A' k q e=>by rw[hv]at e;cases e;rfl) a w g
theorem kr {α:Type} (l:List α) (i:Nat) (z:α):(l.set i z).drop (i+1)=l.drop (i+1):=by
 apply List.ext_getElem?
 intro j
 rw[List.getElem?_drop,List.getElem?_drop,List.getElem?_set,if_neg (by omega)]
theorem vP {α:Type} {l m:List α} {i:Nat} {z:α} (h:l.drop i=m.drop i) (hz:m[i]? =some z):l[i]? =some z:=by
 have:=congrArg (fun x=>x[0]?) h
 simp only[List.getElem?_drop,Nat.add_zero]at this
 rw[this,hz]
theorem pD {α:Type} {l m:List α} {i:Nat} (h:l.drop i=m.drop i):l.drop (i+1)=m.drop (i+1):=by
 have:=congrArg (fun x=>x.drop 1) h
 simpa [List.drop_drop]using this
theorem Ee (x:Int) (b:ByteArray) (w:World):
 (binOp .neq 48 (.agg #[.int .u32 x,.string b]) (.agg #[.int .u32 x,.string b])).run Tryz.prog w= .ok (.bool false) w:=by
 have u4:=Tryz.underlying26
 have u9:=Tryz.underlying9
 have hS:Tryz.prog.underlying 48=some (.struct (Tryz.prog.fieldsOf 48)):=by kernel_rfl
 have hp:Tryz.prog.stoodInHeld 48=false:=by kernel_rfl
 rw[run_neq_struct,show(10000:Nat)=9999+1 from rfl,run_equalIn_agg w 9999 48 _ _ hS hp]
 simp only[Program.fieldsOf,Tryz.underlying48]
 go_simp
instance RQ (z:UInt32×cP):dL Tryz.prog .neq 48 (.agg (dA z).toArray) (.agg (dA z).toArray) (.bool (!decide (z=z))):=⟨fun w=>by rw[decide_eq_true rfl];exact Ee _ _ w,fun w x y=>by apply run_eqGuard_agg;kernel_rfl⟩
theorem Ip (x:Int) (b:ByteArray) (w:World):
 (binOp .neq 70 (.agg #[.int .u32 x,.string b]) (.agg #[.int .u32 x,.string b])).run Tryz.prog w= .ok (.bool false) w:=by
 have u4:=Tryz.underlying26
 have u9:=Tryz.underlying9
 have hS:Tryz.prog.underlying 70=some (.struct (Tryz.prog.fieldsOf 70)):=by kernel_rfl
 have hp:Tryz.prog.stoodInHeld 70=false:=by kernel_rfl
 rw[run_neq_struct,show(10000:Nat)=9999+1 from rfl,run_equalIn_agg w 9999 70 _ _ hS hp]
 simp only[Program.fieldsOf,Tryz.underlying70]
 go_simp
instance Te (z:UInt32×cP):dL Tryz.prog .neq 70 (.agg (dA z).toArray) (.agg (dA z).toArray) (.bool (!decide (z=z))):=⟨fun w=>by rw[decide_eq_true rfl];exact Ip _ _ w,fun w x y=>by apply run_eqGuard_agg;kernel_rfl⟩
attribute [local irreducible] WS LS cD eM cn cv Spec bA aK
variable (w0:World)
theorem ua (o:dS) (va vb:Value×Value×Value):Spec Tryz.prog w0 46 [fp o va,fp o vb] (ei o va*ei o vb) (fun _:Unit=> .bool true) (fun _=>emp):=by
 refine Spec.enter Tryz.func46 rfl Tryz.ntmps46 rfl fun G=> ?_
 unfold fp ei
 simp only[aN,ad]
 repeat' (first|(refine ab ?_;intro K hK)|(refine hK _ ?_;clear hK K)|refine ax ?_|(refine aF ?_ ?_<;>intro hc<;>(try simp only[cS]at hc)<;>(try exact aG))|refine az ?_|((refine' LQ ?zh rfl ?_);case zh=>intro F';exact du rfl rfl iI (by first|assumption|omega|decide|rfl))|(refine bT ?_;intro g))
 rename_i ga
 refine Ad va.1 iI fun V8 _=> ?_
 replace V8:o.aJ.length≤9223372036854775807:=Nat.le_trans V8 (by decide)
 refine aV (fun kk τ=>∃(i:Nat) (l0:List (UInt32×cP)),i+kk=o.aJ.length∧l0.length=o.aJ.length∧l0.drop i=o.aJ.drop i∧τ=⟨[(5,.int .i64 (i:Int)),(2,ptr ga 0),(3,ptr g 0)],[],aK g 35 [aZ o.ay,.bool o.replace,vb.1,vb.2.1,vb.2.2]*(aK ga 35 [aZ o.ay,.bool o.replace,va.1,va.2.1,va.2.2]*(rows 48 2 dA va.1 l0*(rows 70 2 dA va.2.1 o.cj*(rows 166 1 lr va.2.2 o.dropped*(rows 48 2 dA vb.1 o.aJ*(rows 70 2 dA vb.2.1 o.cj*(rows 166 1 lr vb.2.2 o.dropped*G)))))))⟩) ?_ ?_
 ·exact⟨o.aJ.length,_,⟨0,o.aJ,by omega,rfl,rfl,rfl⟩,cG,rfl,ah⟩
 rintro kk τ ⟨i,l0,qE,En,hd,rfl⟩
 rcases Nat.lt_or_ge i o.aJ.length with h|h
 ·have h1:(i:Int)<(l0.length:Int):=by omega
  obtain⟨z,hz⟩:∃z,o.aJ[i]? =some z:=⟨_,List.getElem?_eq_getElem h⟩
  have Kf:=vP hd hz
  have rU:(l0.set i (0,[])).drop (i+1)=o.aJ.drop (i+1):=by rw[kr];exact pD hd
  repeat' (first|refine ag (id:=6) (.range 11) ?_|(refine ab ?_;intro K hK)|(refine hK _ ?_;clear hK K)|refine ax ?_|(refine aF ?_ ?_<;>intro hc<;>(try simp only[cS]at hc)<;>(try exact aG))|refine az ?_|((first|refine' LQ ?zh rfl ?_|refine' bk rfl rfl ?zh ?_);case zh=>intro F';first|exact bp rfl rfl iI (by first|assumption|omega|decide|rfl)|exact du rfl rfl iI (by first|assumption|omega|decide|rfl))|(refine bL (gV ((0,[]):UInt32×cP) rfl rfl rfl iI iI iI rfl rfl (by first|assumption|omega)) ?_;intro gx))
  --Vt
  exact⟨kk - 1,_,by omega,⟨i+1,_,by omega,by rw[List.length_set];exact En,rU,rfl⟩,cG,rfl,ah⟩
 have h1:¬(i:Int)<(l0.length:Int):=by omega
 clear hd qE h
 repeat' (first|(refine ab ?_;intro K hK)|(refine hK _ ?_;clear hK K)|refine ax ?_|(refine aF ?_ ?_<;>intro hc<;>(try simp only[cS]at hc)<;>(try exact aG))|refine az ?_|((refine' LQ ?zh rfl ?_);case zh=>intro F';exact bH rfl rfl iI (by first|assumption|omega|decide|rfl))|fail)
 refine Ad va.2.1 iI fun Mk _=> ?_
 replace Mk:o.cj.length≤9223372036854775807:=Nat.le_trans Mk (by decide)
 refine aV (fun kk τ=>∃(i:Nat) (l1:List (UInt32×cP)),i+kk=o.cj.length∧l1.length=o.cj.length∧l1.drop i=o.cj.drop i∧τ=⟨[(6,.int .i64 (i:Int)),(2,ptr ga 0),(3,ptr g 0)],[],aK g 35 [aZ o.ay,.bool o.replace,vb.1,vb.2.1,vb.2.2]*(aK ga 35 [aZ o.ay,.bool o.replace,va.1,va.2.1,va.2.2]*(rows 48 2 dA va.1 l0*(rows 70 2 dA va.2.1 l1*(rows 166 1 lr va.2.2 o.dropped*(rows 48 2 dA vb.1 o.aJ*(rows 70 2 dA vb.2.1 o.cj*(rows 166 1 lr vb.2.2 o.dropped*G)))))))⟩) ?_ ?_
 ·exact⟨o.cj.length,_,⟨0,o.cj,by omega,rfl,rfl,rfl⟩,cG,rfl,ah⟩
 rintro kk τ ⟨i,l1,qE,V4,hd,rfl⟩
 rcases Nat.lt_or_ge i o.cj.length with h|h
 ·have h1:(i:Int)<(l1.length:Int):=by omega
  obtain⟨z,hz⟩:∃z,o.cj[i]? =some z:=⟨_,List.getElem?_eq_getElem h⟩
  have Kf:=vP hd hz
  have rU:(l1.set i (0,[])).drop (i+1)=o.cj.drop (i+1):=by rw[kr];exact pD hd
  repeat' (first|refine ag (id:=12) (.range 11) ?_|(refine ab ?_;intro K hK)|(refine hK _ ?_;clear hK K)|refine ax ?_|(refine aF ?_ ?_<;>intro hc<;>(try simp only[cS]at hc)<;>(try exact aG))|refine az ?_|((first|refine' LQ ?zh rfl ?_|refine' bk rfl rfl ?zh ?_);case zh=>intro F';first|exact bp rfl rfl iI (by first|assumption|omega|decide|rfl)|exact du rfl rfl iI (by first|assumption|omega|decide|rfl))|(refine bL (gV ((0,[]):UInt32×cP) rfl rfl rfl iI iI iI rfl rfl (by first|assumption|omega)) ?_;intro gx))
  --Vu
  exact⟨kk - 1,_,by omega,⟨i+1,_,by omega,by rw[List.length_set];exact V4,rU,rfl⟩,cG,rfl,ah⟩
 have h1:¬(i:Int)<(l1.length:Int):=by omega
 clear hd qE h
 repeat' (first|(refine ab ?_;intro K hK)|(refine hK _ ?_;clear hK K)|refine ax ?_|(refine aF ?_ ?_<;>intro hc<;>(try simp only[cS]at hc)<;>(try exact aG))|refine az ?_|((refine' LQ ?zh rfl ?_);case zh=>intro F';exact bH rfl rfl iI (by first|assumption|omega|decide|rfl))|fail)
 refine Ad va.2.2 iI fun Ni _=> ?_
 replace Ni:o.dropped.length≤9223372036854775807:=Nat.le_trans Ni (by decide)
 refine aV (fun kk τ=>∃(i:Nat) (l2:List (Int)),i+kk=o.dropped.length∧l2.length=o.dropped.length∧l2.drop i=o.dropped.drop i∧τ=⟨[(7,.int .i64 (i:Int)),(2,ptr ga 0),(3,ptr g 0)],[],aK g 35 [aZ o.ay,.bool o.replace,vb.1,vb.2.1,vb.2.2]*(aK ga 35 [aZ o.ay,.bool o.replace,va.1,va.2.1,va.2.2]*(rows 48 2 dA va.1 l0*(rows 70 2 dA va.2.1 l1*(rows 166 1 lr va.2.2 l2*(rows 48 2 dA vb.1 o.aJ*(rows 70 2 dA vb.2.1 o.cj*(rows 166 1 lr vb.2.2 o.dropped*G)))))))⟩) ?_ ?_
 ·exact⟨o.dropped.length,_,⟨0,o.dropped,by omega,rfl,rfl,rfl⟩,cG,rfl,ah⟩
 rintro kk τ ⟨i,l2,qE,yz,hd,rfl⟩
 rcases Nat.lt_or_ge i o.dropped.length with h|h
 ·have h1:(i:Int)<(l2.length:Int):=by omega
  obtain⟨z,hz⟩:∃z,o.dropped[i]? =some z:=⟨_,List.getElem?_eq_getElem h⟩
  have Kf:=vP hd hz
  have rU:(l2.set i 99).drop (i+1)=o.dropped.drop (i+1):=by rw[kr];exact pD hd
  repeat' (first|refine ag (id:=18) (.range 11) ?_|(refine ab ?_;intro K hK)|(refine hK _ ?_;clear hK K)|refine ax ?_|(refine aF ?_ ?_<;>intro hc<;>(try simp only[cS]at hc)<;>(try exact aG))|refine az ?_|((first|refine' LQ ?zh rfl ?_|refine' bk rfl rfl ?zh ?_);case zh=>intro F';first|exact bp rfl rfl iI (by first|assumption|omega|decide|rfl)|exact du rfl rfl iI (by first|assumption|omega|decide|rfl))|(refine bL (dB (99:Int) rfl rfl iI iI iI rfl (by assumption) rfl) ?_;intro gx))
  --Qp
  exact⟨kk - 1,_,by omega,⟨i+1,_,by omega,by rw[List.length_set];exact yz,rU,rfl⟩,cG,rfl,ah⟩
 have h1:¬(i:Int)<(l2.length:Int):=by omega
 clear hd qE h
 repeat' (first|(refine ab ?_;intro K hK)|(refine hK _ ?_;clear hK K)|refine ax ?_|(refine aF ?_ ?_<;>intro hc<;>(try simp only[cS]at hc)<;>(try exact aG))|refine az ?_|((refine' LQ ?zh rfl ?_);case zh=>intro F';exact bH rfl rfl iI (by first|assumption|omega|decide|rfl))|fail)
 exact aC (.inl rfl) rfl rfl ⟨(),rfl,ah⟩
end
end Go.Proofs.YtapoehkdnglahabGreat

/- A part of what Nodes needs. -/
import Derived.Test.YtapoehkdnglahabGreatNodesGg
set_option maxHeartbeats 8000000
set_option maxRecDepth 100000
set_option linter.unusedVariables false
set_option linter.unusedSimpArgs false
set_option linter.unusedSectionVars false
namespace Go.Proofs.YtapoehkdnglahabGreat
section
open Go.RowKit
attribute [local irreducible] WS LS cD eM cn cv Spec bA aK
variable (w0:World)
theorem EA (m:List (Rec×UInt32)) (r gm:Nat):qf Tryz.prog w0 203 [ptr gm 0] (aK gm 252 [.map (some r)]*mp sc u32 r m) (fun k=>[sc k]) (fun xs=>xs.Perm (m.map (·.1))):=by
 intro l J Jx hY
 refine Spec.enter Tryz.func203 rfl Tryz.ntmps203 rfl fun G=> ?_
 simp only[aN]
 repeat' (first|(refine ab ?_;intro K hK)|(refine hK _ ?_;clear hK K)|refine ax ?_|refine az ?_|(refine ai (vC rfl iI iI) rfl ?_;intro it))
 refine aV (fun k τ=>∃(pre:List Rec) (left:List (Rec×UInt32)) (cur:Option (Rec×UInt32)),left.length=k∧(pre++left.map (·.1)).Perm (m.map (·.1))∧τ=⟨[(5,ptr it 0),(0,mM l)],[],Bs sc u32 r it m left cur*(J pre*(aK gm 252 [.map (some r)]*G))⟩) ?_ ?_
 ·exact⟨m.length,_,⟨[],m,none,rfl,.refl _,rfl⟩,cG,rfl,ah⟩
 ·rintro k τ ⟨pre,left,cur,hk,hp,rfl⟩
  repeat' (first|(refine ab ?_;intro K hK)|(refine hK _ ?_;clear hK K)|refine ax ?_|(refine aF ?_ ?_<;>intro hc<;>(try simp only[cS]at hc)<;>(try exact aG))|refine az ?_|(refine bT ?_;intro g)|((refine' bL ?zh ?_);(case zh=>exact bo rfl rfl iI iI (by first|rfl|(simp only[List.all_cons,List.all_nil, *];rfl)) rfl);intro g)|(refine ai (z6 rfl iI) rfl ?_;rintro⟨_|⟨i,z,u⟩,ho⟩<;>simp only[jC.val,jC.rest,jC.now])|(refine lI (pq rfl iI) rfl ?_))
  ·obtain rfl:left=[]:=ho
   refine aj (.inr rfl) rfl ⟨(pre,true),rfl,?_⟩
   rw[List.map_nil,List.append_nil]at hp
   show aq _ ((pure' _*(_*_))*G)
   refine aq.trans aq.qN ?_
   rw[ad]
   refine aq.ji hp ?_
   exact ah
  ·refine LL (vD rfl rfl rfl (hY pre z ⟨pre++[z]++(left.eraseIdx i).map (·.1),lC hp ho,⟨_,rfl⟩⟩)) iI rfl ?_
   intro b
   cases b
   all_goals simp only[cond_true,cond_false]
   ·repeat' (first|(refine hK _ ?_;clear hK K)|refine ax ?_|(refine aF ?_ ?_<;>intro hc<;>(try simp only[cS]at hc)<;>(try exact aG))|refine az ?_)
    refine aj (.inl rfl) rfl ⟨(pre++[z],false),rfl,?_⟩
    show aq _ ((_*_)*G)
    exact aq.trans (F:=Bs sc u32 r it m (left.eraseIdx i) (some (z,u))*(Jx (pre++[z])*(aK gm 252 [.map (some r)]*G))) (ah) (aq.trans aq.qN (ah))
   ·repeat' (first|(refine hK _ ?_;clear hK K)|refine ax ?_|(refine aF ?_ ?_<;>intro hc<;>(try simp only[cS]at hc)<;>(try exact aG))|refine az ?_)
    have bW:=(List.getElem?_eq_some_iff.1 ho).1
    exact⟨k - 1,_,by omega,⟨pre++[z],left.eraseIdx i,some (z,u),by rw[List.length_eraseIdx,if_pos bW,hk],lC hp ho,rfl⟩,cG,rfl,ah⟩
theorem uU {gf:FuncId} {lb:List Value} {X:af} {S:List Rec→Prop} (hf:aA Tryz.prog gf) (it:qf Tryz.prog w0 gf lb X (fun k=>[sc k]) S) (hS:∀xs,S xs→xs.length≤100000):
 Spec Tryz.prog w0 228 [.slice none 0 0,.func (.func gf) #[] lb.toArray] X (fun p:Value×List Rec=>p.1) (fun p=>pure' (S p.2)*(rows 28 3 Rec.cells p.1 p.2*X)):=by
 refine Spec.jr Tryz.func228 rfl Tryz.ntmps228 rfl fun G=> ?_
 simp only[aN]
 repeat' (first|(refine ab ?_;intro K hK)|(refine hK _ ?_;clear hK K)|refine ax ?_|refine az ?_|(refine bT ?_;intro g))
 revert g;intro gs
 refine cV (aq.nil _ 28 3 Rec.cells none) ?_
 refine cV (H':=X*((hex fun v=>aK gs 22 [v]*rows 28 3 Rec.cells v ([]:List Rec))*G)) (aq.trans (F:=(hex fun v=>aK gs 22 [v]*rows 28 3 Rec.cells v ([]:List Rec))*(X*G)) (aq.mX (p:=fun v=>aK gs 22 [v]*rows 28 3 Rec.cells v ([]:List Rec)) (Value.slice none 0 0) (ah)) (ah)) ?_
 refine ry rfl rfl hf it rfl (fun _=>rfl) (fun pre=>hex fun v=>aK gs 22 [v]*rows 28 3 Rec.cells v pre) (fun _ _=>pure' False) rfl ?_ ?_ ?_
 ·rintro l pre x R ⟨xs,ta,Lt⟩
  have hlen:pre.length+1≤100000:=by
   have:=Lt.length_le
   have:=hS xs ta
   simp at*;omega
  refine iU fun v=> ?_
  repeat' (first|refine ax ?_|(refine bT ?_;intro g)|((refine' bL ?zh ?_);(case zh=>exact bo rfl rfl iI iI (by first|rfl|(simp only[List.all_cons,List.all_nil, *];rfl)) rfl);intro g)|fail)
  rename_i g2
  refine vI rfl (aK g2 28 x.cells*(aK gs 22 [v]*rows 28 3 Rec.cells v pre)) (ah) fun R'=> ?_
  repeat' (first|refine ax ?_|refine az ?_|(refine bQ ?_;intro g)|(refine ai (au Rec.cells [x] iI iI iI rfl rfl rfl rfl rfl iI rfl rfl rfl) rfl ?_;intro vs)|(refine ai (aR rfl rfl iI iI rfl iI iI cO (by first|omega|(simp[al]<;>omega)) rfl) rfl ?_;intro va))
  show aq _ _
  refine aq.mX va ?_
  exact ah
 ·intro b xs ta
  refine hK _ ?_
  refine cV (H':=(hex fun v=>aK gs 22 [v]*rows 28 3 Rec.cells v xs)*(pW b*(X*G))) (ah) ?_
  refine iU fun v=> ?_
  repeat' (first|(refine ab ?_;intro K hK)|(refine hK _ ?_;clear hK K)|refine ax ?_|refine az ?_)
  refine sx ?_
  refine vU (fun h=>by cases h) iI ?_
  refine mn rfl (bh rfl) ⟨(v,xs),rfl,?_⟩
  show aq _ ((pure' (S xs)*(rows 28 3 Rec.cells v xs*X))*G)
  rw[ad (pure' (S xs))]
  refine aq.ji ta ?_
  exact ah
 ·intro b c pre
  exact jR (φ:=False) fun h=>h.elim
theorem yv {gf:FuncId} {lb:List Value} {X:af} {S:List Rec→Prop} (hf:aA Tryz.prog gf) (it:qf Tryz.prog w0 gf lb X (fun k=>[sc k]) S) (hS:∀xs,S xs→xs.length≤100000):
 Spec Tryz.prog w0 201 [.func (.func gf) #[] lb.toArray] X (fun p:Value×List Rec=>p.1) (fun p=>pure' (S p.2)*(rows 28 3 Rec.cells p.1 p.2*X)):=by
 have Oq:=uU w0 hf it hS
 refine Spec.enter Tryz.func201 rfl Tryz.ntmps201 rfl fun G=> ?_
 simp only[aN]
 repeat' (first|(refine ab ?_;intro K hK)|(refine hK _ ?_;clear hK K)|refine ax ?_|refine az ?_|(refine ai (aa iI rfl Oq iI) rfl ?_;intro p))
 exact aC (.inl rfl) rfl rfl ⟨p,rfl,ah⟩
theorem Bj {gf:FuncId} {lb:List Value} {X:af} {S:List Rec→Prop} (hf:aA Tryz.prog gf) (it:qf Tryz.prog w0 gf lb X (fun k=>[sc k]) S) (hS:∀xs,S xs→xs.length≤100000):
 Spec Tryz.prog w0 156 [.func (.func gf) #[] lb.toArray,.func (.func 158) #[] #[]] X (fun p:Value×(l:List Rec)×Ac l=>p.1) (fun p=>pure' (S p.2.1)*(rows 28 3 Rec.cells p.1 p.2.2.l'*X)):=by
 have Ou:=yv w0 hf it hS
 refine Spec.enter Tryz.func156 rfl Tryz.ntmps156 rfl fun G=> ?_
 simp only[aN]
 repeat' (first|(refine ab ?_;intro K hK)|(refine hK _ ?_;clear hK K)|refine ax ?_|refine az ?_|(refine ai (aa iI rfl Ou iI) rfl ?_;rintro⟨v,l⟩;refine lH iI fun hp=> ?_;have Rv:=Fh w0 v l (by have:=hS l hp;omega);dsimp only)|(refine ai (aa iI rfl (by assumption) iI) rfl ?_;intro s))
 refine aC (.inl rfl) rfl rfl ⟨(v,⟨l,s⟩),rfl,?_⟩
 show aq _ ((pure' (S l)*(rows 28 3 Rec.cells v s.l'*X))*G)
 rw[ad (pure' (S l))]
 exact aq.ji hp (ah)
end
section
open Go.RowKit
attribute [local irreducible] WS LS cD eM cn cv Spec bA aK
variable (w0:World)
theorem EB (r:Nat):Spec Tryz.prog w0 157 [.map (some r)] emp (fun g:Nat=> .func (.func 203) #[] [ptr g 0].toArray) (fun g=>aK g 252 [.map (some r)]):=by
 refine Spec.enter Tryz.func157 rfl Tryz.ntmps157 rfl fun G=> ?_
 simp only[aN]
 repeat' (first|(refine ab ?_;intro K hK)|(refine hK _ ?_;clear hK K)|refine ax ?_|refine az ?_|(refine bT ?_;intro g))
 exact aC (.inl rfl) rfl rfl ⟨g,rfl,ah⟩
theorem Mx {κ ν:Type} [DecidableEq κ] (m:List (κ×ν)) (k:κ) (v:ν):(bY m k v).length≤m.length+1:=by
 rw[CK];split<;>omega
theorem Eb {m:List (Rec×UInt32)} {ks:List Rec} {j:Nat} {x:Rec} {u:UInt32} (hx:ks[j]? =some x) (hu:bX m x=some u):(lL m (ks.take j)++ks.drop j).set j {x with seq:=u}=lL m (ks.take (j+1))++ks.drop (j+1):=by
 obtain⟨bW,he⟩:=List.getElem?_eq_some_iff.1 hx
 have h1:(lL m (ks.take j)).length=j:=by simp[lL];omega
 have h2:ks.drop j=x::ks.drop (j+1):=by rw[←he,List.getElem_cons_drop]
 rw[List.take_add_one,hx,h2,List.set_append,if_neg (by omega),h1,Nat.sub_self,List.set_cons_zero]
 simp[lL,hu]
theorem JK {m:List (Rec×UInt32)} {ks:List Rec} {j:Nat} {x:Rec} (hx:ks[j]? =some x):(lL m (ks.take j)++ks.drop j)[j]? =some x:=by
 obtain⟨bW,he⟩:=List.getElem?_eq_some_iff.1 hx
 have h1:(lL m (ks.take j)).length=j:=by simp[lL];omega
 rw[List.getElem?_append_right (by omega),h1,Nat.sub_self,List.getElem?_drop];exact hx
theorem Hc {m:List (Rec×UInt32)} {ks:List Rec} {j:Nat} (hj:j≤ks.length):(lL m (ks.take j)++ks.drop j).length=ks.length:=by
 simp[lL];omega
theorem qv (l:List Rec) (hl:l.length≤100000) (v:Value) (X:af) [hX:eX w0 X v Rec 3 Rec.cells l]:Spec Tryz.prog w0 109 [v] X (fun m:Value=>m) (fun m=>rows 28 3 Rec.cells m (cC l)*X):=by
 refine Spec.enter Tryz.func109 rfl Tryz.ntmps109 rfl fun G=> ?_
 simp only[aN]
 repeat' (first|(refine ab ?_;intro K hK)|(refine hK _ ?_;clear hK K)|refine ax ?_|refine az ?_|(refine ai (ew sc u32) rfl ?_;intro r))
 refine aV (fun k τ=>∃(j:Nat) (m:List (Rec×UInt32)),j+k=l.length∧BB (l.take j) m∧m.length≤j∧τ=⟨[(13,.int .i64 (j:Int)),(12,.int .i64 (l.length:Int)),(11,v),(3,.map (some r))],[],mp sc u32 r m*(X*G)⟩) ?_ ?_
 ·exact⟨l.length,_,⟨0,[],by omega,BB.nil,Nat.le_refl _,rfl⟩,cG,rfl,ah⟩
 ·rintro k τ ⟨j,m,ym,hm,Rg,rfl⟩
  rcases Nat.lt_or_ge j l.length with bW|kQ
  ·obtain⟨z,hz⟩:∃z,l[j]? =some z:=⟨_,List.getElem?_eq_getElem bW⟩
   have oQ:=hm.snoc z
   have gK:l.take j++[z]=l.take (j+1):=by rw[List.take_add_one,hz,Option.toList_some]
   rw[gK]at oQ
   have hlen:=Mx m z.norm.key (max ((bX m z.norm.key).getD 0) z.seq)
   obtain⟨o,a,q⟩:=z
   cases o
   ·have Q9:(⟨false,a,q⟩:Rec).norm.key=⟨false,a,0⟩:=rfl
    rw[Q9]at oQ hlen
    cases hg:bX m ⟨false,a,0⟩with
    |none=>
     rw[hg]at oQ hlen
     simp only[Option.getD_none,Option.getD_some]at oQ hlen
     repeat' (first|refine ae (id:=9) (.range 9) 8 [1,3,4,6,7] ?_|(refine ab ?_;intro K hK)|(refine hK _ ?_;clear hK K)|refine ax ?_|(refine aF ?_ ?_<;>intro hc<;>(try simp only[cS]at hc)<;>(try exact aG))|refine aX ?_|refine az ?_|((first|refine' LQ ?zh rfl ?_|refine' bP rfl rfl rfl ?zh ?_|refine' bk rfl rfl ?zh ?_);case zh=>intro F';exact iw rfl rfl iI iI iI iI iI (by assumption))|(refine bT ?_;intro g)|(refine bQ ?_;intro g)|((first|refine' bL ?zh ?_|refine' dP ?zh rfl rfl ?_);(case zh=>first|exact dt rfl rfl rfl iI iI iI iI iI|exact bo rfl rfl iI iI (by first|rfl|(simp only[List.all_cons,List.all_nil, *];rfl)) rfl);intro g)|fail)
     exact⟨k - 1,_,by omega,⟨j+1,_,by omega,oQ,by have:=hlen;omega,rfl⟩,cG,rfl,ah⟩
    |some u=>
     rw[hg]at oQ hlen
     simp only[Option.getD_none,Option.getD_some]at oQ hlen
     repeat' (first|refine ae (id:=9) (.range 9) 8 [1,3,4,6,7] ?_|(refine ab ?_;intro K hK)|(refine hK _ ?_;clear hK K)|refine ax ?_|(refine aF ?_ ?_<;>intro hc<;>(try simp only[cS]at hc)<;>(try exact aG))|refine aX ?_|refine az ?_|((first|refine' LQ ?zh rfl ?_|refine' bP rfl rfl rfl ?zh ?_|refine' bk rfl rfl ?zh ?_);case zh=>intro F';exact fw rfl rfl iI iI iI iI iI (by assumption))|(refine bT ?_;intro g)|(refine bQ ?_;intro g)|((first|refine' bL ?zh ?_|refine' dP ?zh rfl rfl ?_);(case zh=>first|exact dt rfl rfl rfl iI iI iI iI iI|exact bo rfl rfl iI iI (by first|rfl|(simp only[List.all_cons,List.all_nil, *];rfl)) rfl);intro g)|fail)
     exact⟨k - 1,_,by omega,⟨j+1,_,by omega,oQ,by have:=hlen;omega,rfl⟩,cG,rfl,ah⟩
   ·have Q9:(⟨true,a,q⟩:Rec).norm.key=⟨true,0,0⟩:=rfl
    rw[Q9]at oQ hlen
    cases hg:bX m ⟨true,0,0⟩with
    |none=>
     rw[hg]at oQ hlen
     simp only[Option.getD_none,Option.getD_some]at oQ hlen
     repeat' (first|refine ae (id:=9) (.range 9) 8 [1,3,4,6,7] ?_|(refine ab ?_;intro K hK)|(refine hK _ ?_;clear hK K)|refine ax ?_|(refine aF ?_ ?_<;>intro hc<;>(try simp only[cS]at hc)<;>(try exact aG))|refine aX ?_|refine az ?_|((first|refine' LQ ?zh rfl ?_|refine' bP rfl rfl rfl ?zh ?_|refine' bk rfl rfl ?zh ?_);case zh=>intro F';exact iw rfl rfl iI iI iI iI iI (by assumption))|(refine bT ?_;intro g)|(refine bQ ?_;intro g)|((first|refine' bL ?zh ?_|refine' dP ?zh rfl rfl ?_);(case zh=>first|exact dt rfl rfl rfl iI iI iI iI iI|exact bo rfl rfl iI iI (by first|rfl|(simp only[List.all_cons,List.all_nil, *];rfl)) rfl);intro g)|fail)
     exact⟨k - 1,_,by omega,⟨j+1,_,by omega,oQ,by have:=hlen;omega,rfl⟩,cG,rfl,ah⟩
    |some u=>
     rw[hg]at oQ hlen
     simp only[Option.getD_none,Option.getD_some]at oQ hlen
     repeat' (first|refine ae (id:=9) (.range 9) 8 [1,3,4,6,7] ?_|(refine ab ?_;intro K hK)|(refine hK _ ?_;clear hK K)|refine ax ?_|(refine aF ?_ ?_<;>intro hc<;>(try simp only[cS]at hc)<;>(try exact aG))|refine aX ?_|refine az ?_|((first|refine' LQ ?zh rfl ?_|refine' bP rfl rfl rfl ?zh ?_|refine' bk rfl rfl ?zh ?_);case zh=>intro F';exact fw rfl rfl iI iI iI iI iI (by assumption))|(refine bT ?_;intro g)|(refine bQ ?_;intro g)|((first|refine' bL ?zh ?_|refine' dP ?zh rfl rfl ?_);(case zh=>first|exact dt rfl rfl rfl iI iI iI iI iI|exact bo rfl rfl iI iI (by first|rfl|(simp only[List.all_cons,List.all_nil, *];rfl)) rfl);intro g)|fail)
     exact⟨k - 1,_,by omega,⟨j+1,_,by omega,oQ,by have:=hlen;omega,rfl⟩,cG,rfl,ah⟩
  ·obtain rfl:j=l.length:=by omega
   rw[List.take_length]at hm
   have JZ:=EB w0 r
   have Mr:∀g,Spec Tryz.prog w0 156 [.func (.func 203) #[] [ptr g 0].toArray,.func (.func 158) #[] #[]] (aK g 252 [.map (some r)]*mp sc u32 r m) (fun p:Value×(l:List Rec)×Ac l=>p.1) (fun p=>pure' (p.2.1.Perm (m.map (·.1)))*(rows 28 3 Rec.cells p.1 p.2.2.l'*(aK g 252 [.map (some r)]*mp sc u32 r m))):=fun g=>
    Bj w0 iI (EA w0 m r g) (fun xs hx=>by have:=hx.length_eq;simp at this;omega)
   repeat' (first|(refine ab ?_;intro K hK)|(refine hK _ ?_;clear hK K)|refine ax ?_|(refine aF ?_ ?_<;>intro hc<;>(try simp only[cS]at hc)<;>(try exact aG))|refine aX ?_|refine az ?_|(refine ai (aa iI rfl JZ iI) rfl ?_;intro gk)|(refine ai (aa iI rfl (Mr gk) iI) rfl ?_;rintro⟨vk,l0,sk⟩;refine lH iI fun hp=> ?_;dsimp only))
   have qZ:l0.Perm (m.map (·.1)):=hp
   have Rl:sk.l'.Perm (m.map (·.1)):=sk.perm.trans qZ
   have xh:=Hd hm Rl sk.fH
   have tK:sk.l'.length≤100000:=by have:=Rl.length_eq;simp at this;omega
   refine aV (fun k τ=>∃j:Nat,j+k=sk.l'.length∧τ=⟨[(36,.int .i64 (j:Int)),(35,.int .i64 (sk.l'.length:Int)),(34,vk),(7,vk),(3,.map (some r))],[],rows 28 3 Rec.cells vk (lL m (sk.l'.take j)++sk.l'.drop j)*(mp sc u32 r m*(X*G))⟩) ?_ ?_
   ·exact⟨sk.l'.length,_,⟨0,by omega,rfl⟩,cG,rfl,by simp only[List.take_zero,List.drop_zero,lL,List.map_nil,List.nil_append];exact ah⟩
   ·rintro k τ ⟨j,XM,rfl⟩
    have zp:=Hc (m:=m) (ks:=sk.l') (j:=j) (by omega)
    rcases Nat.lt_or_ge j sk.l'.length with bW|kQ
    ·obtain⟨x,hx⟩:∃z,sk.l'[j]? =some z:=⟨_,List.getElem?_eq_getElem bW⟩
     have Mu:x∈m.map (·.1):=Rl.subset (List.mem_of_getElem? hx)
     obtain⟨u,hu⟩:∃u,bX m x=some u:=by
      cases hg:bX m x with
      |none=>exact absurd Mu ((mG m x).1 hg)
      |some u=>exact⟨u,rfl⟩
     have l5:=JK (m:=m) hx
     have jf:=Eb hx hu
     have V0:j<(lL m (sk.l'.take j)++sk.l'.drop j).length:=by omega
     generalize lL m (sk.l'.take j)++sk.l'.drop j=cur at l5 jf zp V0 ⊢
     repeat' (first|(refine ab ?_;intro K hK)|(refine hK _ ?_;clear hK K)|refine ax ?_|(refine aF ?_ ?_<;>intro hc<;>(try simp only[cS]at hc)<;>(try exact aG))|refine aX ?_|refine az ?_|((refine' LQ ?zh rfl ?_);case zh=>intro F';exact fw rfl rfl iI iI iI iI iI (by assumption))|(refine bT ?_;intro g)|((refine' bL ?zh ?_);(case zh=>exact bo rfl rfl iI iI (by first|rfl|(simp only[List.all_cons,List.all_nil, *];rfl)) rfl);intro g)|(refine bL (dB (z:=x) {x with seq:=u} rfl rfl iI iI iI rfl (by assumption) rfl) ?_;intro g))
     exact⟨k - 1,_,by omega,⟨j+1,by omega,rfl⟩,cG,rfl,by rw[←jf];exact ah⟩
    ·obtain rfl:j=sk.l'.length:=by omega
     rw[List.take_length,List.drop_length,List.append_nil,xh]
     repeat' (first|(refine ab ?_;intro K hK)|(refine hK _ ?_;clear hK K)|refine ax ?_|(refine aF ?_ ?_<;>intro hc<;>(try simp only[cS]at hc)<;>(try exact aG))|refine aX ?_|refine az ?_)
     exact aC (.inl rfl) rfl rfl ⟨vk,rfl,ah⟩
end
section
open Go.RowKit
theorem L0 {P:Program} {n:fT} {w0:World} {E:Env} {D:List Deferred} {F:af} {c:Code} {Q:Exit→St→Prop} {g:Nat} {self:UInt32} {ls:List Ln} (h:∀r bs,bs.length=ls.length→WS P n w0 c Q ⟨E,D,dO g r self bs ls*F⟩):WS P n w0 c Q ⟨E,D,dR g self ls*F⟩:=by
 unfold dR
 refine iU fun x=> ?_
 rw[ad]
 exact jR fun hl=>h x.1 x.2 hl
def Rec.ln (r:Rec):Ln:=⟨r.addr,bS r.seq,0,0,false,0,[]⟩
def fe (self:UInt32) (ls:List Ln) (r:Rec):List Ln:=if r.own=false∧r.addr≠self∧ls.length<8 then j8 ls r.ln else ls
def iV (self:UInt32) (c:List Rec):List Ln:=c.foldl (fe self) []
theorem pJ (self:UInt32) (c:List Rec) (r:Rec):iV self (c++[r])=fe self (iV self c) r:=by simp[iV]
theorem C2 (ls:List Ln) (x:Ln):(j8 ls x).length≤ls.length+1:=by unfold j8;split<;>simp
theorem CL (self:UInt32) (c:List Rec):(iV self c).length≤8:=by
 induction c using eE with
 |nil=>simp[iV]
 |snoc c r ih=>
  rw[pJ];unfold fe
  split
  ·rename_i h;have:=C2 (iV self c) r.ln;omega
  ·exact ih
attribute [local irreducible] WS LS cD eM cn cv Spec bA aK
variable (w0:World)
theorem zH (self:UInt32) (l:List Rec) (hl:l.length≤100000) (v:Value) (X:af) [hX:eX w0 X v Rec 3 Rec.cells l]:
 Spec Tryz.prog w0 56 [u32 self,v] X (fun g:Nat=>ptr g 0) (fun g=>dR g self (iV self (cC l))*X):=by
 have QU:=qv w0 l hl v X
 refine Spec.enter Tryz.func56 rfl Tryz.ntmps56 rfl fun G=> ?_
 simp only[aN]
 repeat' (first|(refine ab ?_;intro K hK)|(refine hK _ ?_;clear hK K)|refine ax ?_|refine az ?_|(refine bT ?_;intro g)|(refine ai (ew u32 gw) rfl ?_;intro r)|(refine ai (aa iI rfl QU iI) rfl ?_;intro vc))
 revert g;intro gt
 have Dy:=iM l
 generalize cC l=c at*
 refine aV (fun k τ=>∃j:Nat,j+k=c.length∧τ=⟨[(15,.int .i64 (j:Int)),(14,.int .i64 (c.length:Int)),(13,vc),(5,ptr gt 0),(0,u32 self)],[],dR gt self (iV self (c.take j))*(rows 28 3 Rec.cells vc c*(X*G))⟩) ?_ ?_
 ·exact⟨c.length,_,⟨0,by omega,rfl⟩,cG,rfl,aq.dR (r:=r) (bs:=[]) rfl (by simp only[iV,List.take_zero,List.foldl_nil,dO,lmap,List.zipWith_nil_left,dN];exact ah)⟩
 ·rintro k τ ⟨j,ym,rfl⟩
  clear r
  refine L0 fun r bs hlen=> ?_
  rcases Nat.lt_or_ge j c.length with bW|kQ
  ·obtain⟨⟨zo,za,zs⟩,hz⟩:∃z,c[j]? =some z:=⟨_,List.getElem?_eq_getElem bW⟩
   have gK:iV self (c.take (j+1))=fe self (iV self (c.take j)) ⟨zo,za,zs⟩:=by rw[List.take_add_one,hz,Option.toList_some,pJ]
   have Rg:(lmap bs (iV self (c.take j))).length=(iV self (c.take j)).length:=by simp[lmap,hlen]
   have Zc:=CL self (c.take j)
   have XG:=mW w0 zs
   have qa:=zM w0 gt r self bs (iV self (c.take j)) hlen (Rec.ln ⟨zo,za,zs⟩) rfl
   simp only[bM,Rec.ln,bS,Gw,NQ]at qa
   cases zo
   ·by_cases h1:za=self
    ·have jf:fe self (iV self (c.take j)) ⟨false,za,zs⟩=iV self (c.take j):=by simp[fe,h1]
     rw[jf]at gK
     simp only[dO]
     repeat' (first|(refine ab ?_;intro K hK)|(refine hK _ ?_;clear hK K)|refine ax ?_|(refine aF ?_ ?_<;>intro hc<;>(try simp only[cS]at hc)<;>(try exact aG))|refine aX ?_|refine az ?_|(refine bT ?_;intro g)|((refine' bL ?zh ?_);(case zh=>exact bo rfl rfl iI iI (by first|rfl|(simp only[List.all_cons,List.all_nil, *];rfl)) rfl);intro g)|fail)
     exact⟨k - 1,_,by omega,⟨j+1,by omega,rfl⟩,cG,rfl,by rw[gK];exact aq.dR (r:=r) (bs:=bs) hlen (by unfold dO;exact ah)⟩
    ·by_cases h2:(iV self (c.take j)).length<8
     ·have jf:fe self (iV self (c.take j)) ⟨false,za,zs⟩=j8 (iV self (c.take j)) (Rec.ln ⟨false,za,zs⟩):=by simp[fe,h1,h2]
      rw[jf]at gK
      simp only[dO]at qa ⊢
      repeat' (first|refine ae (id:=6) (.range 8) 7 [2,4] ?_|(refine ab ?_;intro K hK)|(refine hK _ ?_;clear hK K)|refine ax ?_|(refine aF ?_ ?_<;>intro hc<;>(try simp only[cS]at hc)<;>(try exact aG))|refine aX ?_|refine az ?_|(refine bT ?_;intro g)|((refine' bL ?zh ?_);(case zh=>exact bo rfl rfl iI iI (by first|rfl|(simp only[List.all_cons,List.all_nil, *];rfl)) rfl);intro g)|(refine aD (aa iI rfl XG iI) rfl rfl rfl ?_;intro u)|(refine aD (aa iI rfl qa iI) rfl rfl rfl ?_;intro u))
      exact⟨k - 1,_,by omega,⟨j+1,by omega,rfl⟩,cG,rfl,by rw[gK];simp only[Rec.ln,bS];exact ah⟩
     ·have jf:fe self (iV self (c.take j)) ⟨false,za,zs⟩=iV self (c.take j):=by simp[fe,h2]
      rw[jf]at gK
      simp only[dO]
      repeat' (first|(refine ab ?_;intro K hK)|(refine hK _ ?_;clear hK K)|refine ax ?_|(refine aF ?_ ?_<;>intro hc<;>(try simp only[cS]at hc)<;>(try exact aG))|refine aX ?_|refine az ?_|(refine bT ?_;intro g)|((refine' bL ?zh ?_);(case zh=>exact bo rfl rfl iI iI (by first|rfl|(simp only[List.all_cons,List.all_nil, *];rfl)) rfl);intro g)|fail)
      exact⟨k - 1,_,by omega,⟨j+1,by omega,rfl⟩,cG,rfl,by rw[gK];exact aq.dR (r:=r) (bs:=bs) hlen (by unfold dO;exact ah)⟩
   ·have jf:fe self (iV self (c.take j)) ⟨true,za,zs⟩=iV self (c.take j):=by simp[fe]
    rw[jf]at gK
    simp only[dO]
    repeat' (first|(refine ab ?_;intro K hK)|(refine hK _ ?_;clear hK K)|refine ax ?_|(refine aF ?_ ?_<;>intro hc<;>(try simp only[cS]at hc)<;>(try exact aG))|refine aX ?_|refine az ?_|(refine bT ?_;intro g)|((refine' bL ?zh ?_);(case zh=>exact bo rfl rfl iI iI (by first|rfl|(simp only[List.all_cons,List.all_nil, *];rfl)) rfl);intro g)|fail)
    exact⟨k - 1,_,by omega,⟨j+1,by omega,rfl⟩,cG,rfl,by rw[gK];exact aq.dR (r:=r) (bs:=bs) hlen (by unfold dO;exact ah)⟩
  ·obtain rfl:j=c.length:=by omega
   simp only[List.take_length]at hlen ⊢
   repeat' (first|(refine ab ?_;intro K hK)|(refine hK _ ?_;clear hK K)|refine ax ?_|(refine aF ?_ ?_<;>intro hc<;>(try simp only[cS]at hc)<;>(try exact aG))|refine aX ?_|refine az ?_)
   exact aC (.inl rfl) rfl rfl ⟨gt,rfl,by rw[ad];exact aq.dR (r:=r) (bs:=bs) hlen (ah)⟩
end
section
open Go.RowKit
variable {P:Program} {n:fT} {w0:World} {E:Env} {D:List Deferred} {H F F2 R:af} {ops:Array Oper} {Q:Exit→St→Prop} {σ:St}
def Gc (m:Nat):List Nat→Array Bool
 |[]=>Array.replicate m false
 |i::r=>(Gc m r).setIfInBounds i true
def AS (P:Program) (n:fT) (w0:World) (ops:Array Oper) (Q:Exit→St→Prop) (done:List Nat) (σ:St):Prop:=
 ∀a w,Good n w0 σ a w→wpAnyIn (uW n.round) 0 P .any ops (lift n w0 Q) (ops.size - done.length) (Gc ops.size done) a w
def AO (P:Program) (n:fT) (w0:World) (ops:Array Oper) (Q:Exit→St→Prop) (done:List Nat) (i:Nat) (σ:St):Prop:=
 ∀a w,Good n w0 σ a w→wpOpIn (uW n.round) 0 P ops (lift n w0 Q) i (wpAnyIn (uW n.round) 0 P .any ops (lift n w0 Q) (ops.size - (i::done).length) (Gc ops.size (i::done))) a w
def N3 (P:Program) (n:fT) (w0:World) (ops:Array Oper) (Q:Exit→St→Prop) (done:List Nat) (σ:St):List Nat→Prop
 |[]=>True
 |i::r=>AO P n w0 ops Q done i σ∧N3 P n w0 ops Q done σ r
theorem BP {done:List Nat}:∀{r:List Nat},N3 P n w0 ops Q done σ r→∀i∈r,AO P n w0 ops Q done i σ
 |[],_,i,hi=>by cases hi
 |j::r,h,i,hi=>by
  rcases List.mem_cons.1 hi with rfl|hi
  ·exact h.1
  ·exact BP h.2 i hi
theorem aw {done r:List Nat} (hr:Region.ready .any ops (Gc ops.size done)=r) (bW:Nat.blt done.length ops.size=true) (mi:r.isEmpty=false) (h:N3 P n w0 ops Q done σ r):AS P n w0 ops Q done σ:=fun a w g=>by
 have XU:done.length<ops.size:=by simpa using bW
 obtain⟨f,hf⟩:∃f,ops.size - done.length=f+1:=⟨ops.size - done.length - 1,by omega⟩
 have mF:ops.size - ((0:Nat)::done).length=f:=by simp;omega
 rw[hf]
 refine⟨fun h0=> ?_,fun i hi=> ?_⟩
 ·rw[hr]at h0;subst h0;cases mi
 ·rw[hr]at hi
  have:=BP h i hi a w g
  have e:ops.size - (i::done).length=f:=by simp;omega
  rw[e]at this
  exact this
theorem cu {done:List Nat} {i d:Nat} {op:Op} {ty:TypeId} {pos:String} {after:Array Edge} {v:Value} (hi:ops[i]? =some ⟨some d,op,ty,pos,after,none⟩) (iZ:cD P n w0 ⟨some d,op,ty,pos,after,none⟩ E H v) (hd:Nat.blt d n.tmps=true) (h:AS P n w0 ops Q (i::done) ⟨(d,v)::E,D,H⟩):AO P n w0 ops Q done i ⟨E,D,H⟩:=fun a w g=>by
 unfold wpOpIn
 rw[hi]
 simp only
 rw[if_pos (by rfl)]
 exact iZ.K5 g.dQ g.sat (h _ _ ⟨g.dQ.hJ (some d) _ hd,g.defers,g.sat⟩)
theorem kv {done:List Nat} {i d:Nat} {op:Op} {ty:TypeId} {pos:String} {after:Array Edge} {α:Type} {v:α→Value} {post:α→af} (hi:ops[i]? =some ⟨some d,op,ty,pos,after,none⟩) (iZ:cn P n w0 ⟨some d,op,ty,pos,after,none⟩ E H v post) (hd:Nat.blt d n.tmps=true) (h:∀x,AS P n w0 ops Q (i::done) ⟨(d,v x)::E,D,post x⟩):AO P n w0 ops Q done i ⟨E,D,H⟩:=fun a w g=>by
 unfold wpOpIn
 rw[hi]
 simp only
 rw[if_pos (by rfl)]
 obtain⟨pre,mr,G,hT,hH,hp⟩:=iZ
 exact hT.K5 G g.dQ (g.sat.cast hH) fun x w' hs=>h x _ _ ⟨g.dQ.hJ (some d) _ hd,g.defers,hs.cast (hp x).symm⟩
theorem dq {done:List Nat} {i:Nat} {f:FuncId} {args:List Value} {pre post:af} {chain:List PanicEntry} {d:Option Tmp} {xs:List Operand} {ts:Array TypeId} {ty:TypeId} {pos:String} {after:Array Edge} (hi:ops[i]? =some ⟨d,.call ⟨.value (.func f),xs.toArray,ts⟩,ty,pos,after,none⟩) (hf:aA P f) (eB:E.mU xs=some args) (spec:iR P w0 f args pre chain post) (hH:Own H pre F) (h:Q (.panic chain) ⟨E,D,post*F⟩):AO P n w0 ops Q done i ⟨E,D,H⟩:=fun a w g=>by
 unfold wpOpIn
 rw[hi]
 simp only
 rw[if_pos (by rfl)]
 refine jB (.inr (fun c hc=>by cases hc)) ?_
 have e:=g.dQ.mU eB
 have hr:(execOp a.eval ⟨d,.call ⟨.value (.func f),xs.toArray,ts⟩,ty,pos,after,none⟩).run P w= .ok (.enter f args.toArray) w:=by
  have h:=fI hf args.toArray w
  simp[execOp,resolve,Act.eval,Deferred.ofValue,invoke,e,h]
 unfold Oper.wp
 rw[hr]
 refine(spec F w (g.sat.cast hH.eq)).mono ?_
 rintro e w' ⟨rfl,eI⟩
 exact⟨_,h,g.dQ,g.defers,eI⟩
theorem wz {id:Nat} {l:List Oper} (hm:P.follows .mixedOrders=true) (h:AS P n w0 l.toArray Q [] ⟨E,D,H⟩):WS P n w0 (.region id l.toArray true) Q ⟨E,D,H⟩:=fun a w g=>by
 refine wpIn_region_any hm ?_
 exact h a w.drew ⟨g.dQ,g.defers,g.sat.drew⟩
theorem BJ {l l':List Oper} {id:Nat} (t:Nat) (idx:List Nat) (cp:Nat) (bs:List Nat) {g off:Nat} {bt:TypeId} {cs:List Value} (hs:iT P l idx (yA bs) cp=true) (hl:jK l idx=some l') (hx:E.get t=some (ptr g off)) (hL:cZ H g bt cs F) (h:DL P n w0 l.toArray Q D emp (aK g bt cs) (yA bs) cp 0 false l' E F):WS P n w0 (.region id l.toArray true) Q ⟨E,D,H⟩:=
 iK idx l' emp (aK g bt cs) F _ cp hs (by rw[aB];exact hL.eq) (gO hl) h
theorem cK {l l':List Oper} {id:Nat} (t:Nat) (idx:List Nat) (cp:Nat) (bs:List Nat) {g off:Nat} {bt:TypeId} {cs:List Value} (h:DL P n w0 l.toArray Q D emp (aK g bt cs) (yA bs) cp 0 false l' E F) (hs:iT P l idx (yA bs) cp=true:=by decide+kernel) (hl:jK l idx=some l':=by rfl) (hx:E.get t=some (ptr g off):=by rfl) (hL:cZ H g bt cs F:=by exact iI):WS P n w0 (.region id l.toArray true) Q ⟨E,D,H⟩:=BJ t idx cp bs hs hl hx hL h
theorem I7 {l l':List Oper} {id:Nat} (t t2:Nat) (idx:List Nat) (cp:Nat) (bs:List Nat) {g off g2 A5:Nat} {bt rJ:TypeId} {cs pV:List Value} {F1:af} (hs:iT P l idx (yA bs) cp=true) (hl:jK l idx=some l') (hx:E.get t=some (ptr g off)) (qb:E.get t2=some (ptr g2 A5)) (hR:cZ H g2 rJ pV F1) (hL:cZ F1 g bt cs F) (h:DL P n w0 l.toArray Q D (aK g2 rJ pV) (aK g bt cs) (yA bs) cp 0 false l' E F):WS P n w0 (.region id l.toArray true) Q ⟨E,D,H⟩:=
 iK idx l' (aK g2 rJ pV) (aK g bt cs) F _ cp hs (by rw[hR.eq,hL.eq]) (gO hl) h
theorem cL {l l':List Oper} {id:Nat} (t t2:Nat) (idx:List Nat) (cp:Nat) (bs:List Nat) {g off g2 A5:Nat} {bt rJ:TypeId} {cs pV:List Value} {F1:af} (h:DL P n w0 l.toArray Q D (aK g2 rJ pV) (aK g bt cs) (yA bs) cp 0 false l' E F) (hs:iT P l idx (yA bs) cp=true:=by decide+kernel) (hl:jK l idx=some l':=by rfl) (hx:E.get t=some (ptr g off):=by rfl) (qb:E.get t2=some (ptr g2 A5):=by rfl) (hR:cZ H g2 rJ pV F1:=by exact iI) (hL:cZ F1 g bt cs F:=by exact iI):WS P n w0 (.region id l.toArray true) Q ⟨E,D,H⟩:=I7 t t2 idx cp bs hs hl hx qb hR hL h
end
section
open Go.RowKit
def uw (bs:List (Nat×Nat)) (ls:List Ln) (d:UInt32):Nat:=(bX (lmap bs ls) d).getD 0
theorem tS {bs:List (Nat×Nat)} {ls:List Ln} {d:UInt32} (hlen:bs.length=ls.length) (hd:d∈aO ls):bX (lmap bs ls) d=some (uw bs ls d):=by
 unfold uw
 cases h:bX (lmap bs ls) d with
 |none=>exact absurd (by rw[nf hlen];exact hd) ((mG _ d).1 h)
 |some b=>rfl
theorem pI {l:List UInt32} {d:UInt32}:d∈aQ l↔d∈l:=(List.mergeSort_perm l _).mem_iff
theorem cF (l:List UInt32):(aQ l).length=l.length:=(List.mergeSort_perm l _).length_eq
def tj (nb:UInt32) (pre:List UInt32) (ls:List Ln):List Ln:=ls.map fun l=>if l.dest∈pre then l.brk nb else l
def nH (nb:UInt32) (ls:List Ln):List Ln:=ls.map (Ln.brk nb)
def jh (nb:UInt32) (pre:List UInt32) (ls:List Ln):List (UInt32×UInt32):=pre.filterMap fun d=>match dG ls d with
 |some l=>if l.valid=true∧l.next=nb∧0<l.before.length then some (l.dest,(l.ended 0).seq)else none
 |none=>none
theorem Jq (nb:UInt32) (ls:List Ln):tj nb [] ls=ls:=by simp[tj]
theorem Jp (nb:UInt32) (ls:List Ln):tj nb (aQ (aO ls)) ls=nH nb ls:=by
 apply List.map_congr_left
 intro l hl
 have:l.dest∈aQ (aO ls):=pI.2 (List.mem_map.2 ⟨l,hl,rfl⟩)
 rw[if_pos this]
theorem Jr (nb:UInt32) (l:Ln):(l.brk nb).dest=l.dest:=by unfold Ln.brk;split<;>rfl
theorem GW (nb:UInt32) (bs:List (Nat×Nat)) (ls:List Ln):lmap bs (nH nb ls)=lmap bs ls:=by
 apply List.ext_getElem?
 intro j
 simp only[lmap,nH,List.getElem?_zipWith,List.getElem?_map]
 cases bs[j]? <;>cases ls[j]? <;>simp[Jr]
theorem Js {nb:UInt32} {pre:List UInt32} {ls:List Ln} {j:Nat} {d:UInt32} {l:Ln} (hn:(aO ls).Nodup) (hl:ls[j]? =some l) (hd:l.dest=d) (hp:d∉pre):
 (tj nb pre ls)[j]? =some l∧(tj nb pre ls).set j (l.brk nb)=tj nb (pre++[d]) ls:=by
 refine⟨by simp only[tj,List.getElem?_map,hl,Option.map_some];rw[if_neg (hd▸hp)],?_⟩
 apply List.ext_getElem?
 intro m
 have bW:=(List.getElem?_eq_some_iff.1 hl).1
 rw[List.getElem?_set]
 simp only[tj,List.getElem?_map,List.length_map]
 by_cases e:j=m
 ·subst e
  rw[if_pos rfl,if_pos bW,hl,Option.map_some,if_pos (by simp[hd])]
 ·rw[if_neg e]
  cases hm:ls[m]? with
  |none=>rfl
  |some x=>
   simp only[Option.map_some]
   have mi:x.dest≠d:=fun hx=>e (by
    have h1:=iB hn hl
    have h2:=iB hn hm
    rw[hd]at h1;rw[hx,h1]at h2;exact Option.some.inj h2)
   congr 1
   by_cases hx:x.dest∈pre
   ·rw[if_pos hx,if_pos (by simp[hx])]
   ·rw[if_neg hx,if_neg (by simp[hx,mi])]
attribute [local irreducible] WS LS cD eM cn cv Spec bA aK
variable (w0:World)
theorem sa (gt r:Nat) (self:UInt32) (bs:List (Nat×Nat)) (ls:List Ln) (hlen:bs.length=ls.length) (Ol:ls.length≤12):
 M1 Tryz.prog w0 122 [ptr gt 0] [] (aK gt 216 [u32 self,.map (some r)]*mp u32 gw r (lmap bs ls)) (fun d=>[ptr (uw bs ls d) 0]) (fun xs=>xs=aQ (aO ls)):=by
 intro l J Jx hY
 have JZ:=Cv w0 r
 have hs:∀gk,Spec Tryz.prog w0 181 [.func (.func 218) #[] [ptr gk 0].toArray] (aK gk 214 [.map (some r)]*mp u32 gw r (lmap bs ls)) (fun p:Value×(l:List UInt32)×nz l=>p.1) (fun p=>pure' (p.2.1.Perm ((lmap bs ls).map (·.1)))*(rows 26 1 cA p.1 p.2.2.l'*(aK gk 214 [.map (some r)]*mp u32 gw r (lmap bs ls)))):=fun gk=>
  qt w0 iI (Ez w0 (lmap bs ls) r gk) (fun xs hx=>by have:=hx.length_eq;rw[nf hlen]at this;simp[aO]at this;omega)
 refine Spec.enter Tryz.func122 rfl Tryz.ntmps122 rfl fun G=> ?_
 simp only[List.cons_append,List.nil_append,aN]
 repeat' (first|(refine ab ?_;intro K hK)|(refine hK _ ?_;clear hK K)|refine ax ?_|refine az ?_|(refine ai (aa iI rfl JZ iI) rfl ?_;intro gk)|(refine ai (aa iI rfl (hs gk) iI) rfl ?_;rintro⟨vk,l0,sk⟩;refine lH iI fun hp=> ?_;dsimp only))
 have qZ:l0.Perm (aO ls):=by rw[←nf hlen];exact hp
 have S3:=sK qZ sk
 rw[S3]
 have Ly:=cF (aO ls)
 have El:(aO ls).length=ls.length:=by simp[aO]
 have xk:∀d∈aQ (aO ls),bX (lmap bs ls) d=some (uw bs ls d):=fun d hd=>tS hlen (pI.1 hd)
 generalize ta:aQ (aO ls)=xs at*
 refine aV (fun k τ=>∃j:Nat,j+k=xs.length∧τ=⟨[(13,.int .i64 (j:Int)),(12,.int .i64 (xs.length:Int)),(11,vk),(0,ptr gt 0),(1,mM l)],[],rows 26 1 cA vk xs*(J (xs.take j)*(aK gt 216 [u32 self,.map (some r)]*(mp u32 gw r (lmap bs ls)*G)))⟩) ?_ ?_
 ·exact⟨xs.length,_,⟨0,by omega,rfl⟩,cG,rfl,by rw[List.take_zero];exact ah⟩
 ·rintro k τ ⟨j,ym,rfl⟩
  rcases Nat.lt_or_ge j xs.length with bW|kQ
  ·obtain⟨d,hz⟩:∃z,xs[j]? =some z:=⟨_,List.getElem?_eq_getElem bW⟩
   have hg:=xk d (List.mem_of_getElem? hz)
   have gK:xs.take j++[d]=xs.take (j+1):=by rw[List.take_add_one,hz,Option.toList_some]
   have Ns:=hY (xs.take j) d ⟨xs,rfl,by rw[gK];exact List.take_prefix _ _⟩
   rw[gK]at Ns
   repeat' (first|(refine ab ?_;intro K hK)|(refine hK _ ?_;clear hK K)|refine ax ?_|(refine aF ?_ ?_<;>intro hc<;>(try simp only[cS]at hc)<;>(try exact aG))|refine aX ?_|refine az ?_|((refine' LQ ?zh rfl ?_);case zh=>intro F';exact fw rfl rfl iI iI iI iI iI (by assumption))|(refine LL (vD rfl rfl rfl Ns) iI rfl ?_;rintro(_|_)<;>simp only[cond_true,cond_false]))
   ·exact aj (.inl rfl) rfl ⟨(xs.take (j+1),false),rfl,by simp only[cond_false];exact ah⟩
   ·exact⟨k - 1,_,by omega,⟨j+1,by omega,rfl⟩,cG,rfl,ah⟩
  ·obtain rfl:j=xs.length:=by omega
   rw[List.take_length]
   repeat' (first|(refine ab ?_;intro K hK)|(refine hK _ ?_;clear hK K)|refine ax ?_|(refine aF ?_ ?_<;>intro hc<;>(try simp only[cS]at hc)<;>(try exact aG))|refine aX ?_)
   refine aj (.inr rfl) rfl ⟨(xs,true),rfl,?_⟩
   simp only[cond_true]
   rw[ad (pure' _)]
   exact aq.ji trivial (ah)
theorem An (gt r:Nat) (self:UInt32) (bs:List (Nat×Nat)) (ls:List Ln) (hlen:bs.length=ls.length) (hn:(aO ls).Nodup) (Ol:ls.length≤12) (nb:UInt32):
 Spec Tryz.prog w0 194 [ptr gt 0,u32 nb] (dO gt r self bs ls) (fun v:Value=>v) (fun v=>rows 180 2 bB v (jh nb (aQ (aO ls)) ls)*dO gt r self bs (nH nb ls)):=by
 have it:=sa w0 gt r self bs ls hlen Ol
 have Uw:(aQ (aO ls)).Nodup:=((List.mergeSort_perm (aO ls) _).nodup_iff).2 hn
 refine Spec.jr Tryz.func194 rfl Tryz.ntmps194 rfl fun G=> ?_
 simp only[aN,dO]
 repeat' (first|(refine ab ?_;intro K hK)|(refine hK _ ?_;clear hK K)|refine ax ?_|refine az ?_|(refine bT ?_;intro g))
 rename_i g3
 revert g;intro g5
 refine cV (aq.nil _ 180 2 bB none) ?_
 refine cV (H':=(aK gt 216 [u32 self,.map (some r)]*mp u32 gw r (lmap bs ls))*((hex fun v=>aK g5 42 [v]*(rows 180 2 bB v (jh nb [] ls)*(aK g3 26 [u32 nb]*dN bs (tj nb [] ls))))*G)) (aq.trans (F:=(hex fun v=>aK g5 42 [v]*(rows 180 2 bB v (jh nb [] ls)*(aK g3 26 [u32 nb]*dN bs (tj nb [] ls))))*((aK gt 216 [u32 self,.map (some r)]*mp u32 gw r (lmap bs ls))*G)) (aq.mX (p:=fun v=>aK g5 42 [v]*(rows 180 2 bB v (jh nb [] ls)*(aK g3 26 [u32 nb]*dN bs (tj nb [] ls)))) (Value.slice none 0 0) (by rw[Jq];simp only[jh,List.filterMap_nil];exact ah)) (ah)) ?_
 refine mB (fb:=[ptr gt 0]) rfl rfl iI it rfl (fun _=>rfl) (fun pre=>hex fun v=>aK g5 42 [v]*(rows 180 2 bB v (jh nb pre ls)*(aK g3 26 [u32 nb]*dN bs (tj nb pre ls)))) (fun _ _=>pure' False) rfl ?_ ?_ ?_
 ·rintro l pre d R ⟨xs,rfl,Lt⟩
  have QX:d∈aO ls:=pI.1 (Lt.subset (by simp))
  have Mn:pre.length+1≤12:=by
   have:=Lt.length_le
   rw[cF]at this
   simp[aO]at this;omega
  have Xy:d∉pre:=by
   have h1:=Lt.sublist.nodup Uw
   rw[List.nodup_append]at h1
   exact fun h=>h1.2.2 d h d (by simp) rfl
  have Ur:=tS hlen QX
  obtain⟨j,rb,x,hx,QN,Lx⟩:=xy (by obtain⟨i,_,hi⟩:=tT Ur;exact List.mem_of_getElem? hi)
  obtain⟨l5,jf⟩:=Js (nb:=nb) hn hx Lx Xy
  obtain⟨F,h1,h2⟩:=kK QN l5
  have h3:=h2 (x.brk nb)
  rw[jf]at h3
  have OB:dG ls d=some x:=eO (Lx▸iB hn hx) hx
  have Ri:(jh nb pre ls).length≤pre.length:=List.length_filterMap_le _ _
  have Ce:=w4 w0 (uw bs ls d) rb x 0
  have yl:=mg x.before
  generalize uw bs ls d=b at*
  refine iU fun v=> ?_
  rw[h1]
  simp only[lu,cU,yU]at Ce ⊢
  repeat' (first|refine ax ?_|refine az ?_)
  refine vI rfl (aK g5 42 [v]*(rows 180 2 bB v (jh nb pre ls)*(aK g3 26 [u32 nb]*(aK b 230 (cU x rb)*(mp u32 jO rb (kc x.before)*F))))) (by simp only[cU];exact ah) fun R'=> ?_
  simp only[cU]
  by_cases c1:x.valid=true∧x.next=nb
  ·obtain⟨c1,c2⟩:=c1
   have QO:x.brk nb=x.ended 0:=by simp[Ln.brk,c1,c2]
   rw[QO]at h3
   rw[c1]at Ce ⊢
   by_cases c3:0<x.before.length
   ·have ho:jh nb (pre++[d]) ls=jh nb pre ls++[(x.dest,(x.ended 0).seq)]:=by simp[jh,OB,c1,c2,c3,Lx]
    repeat' (first|refine ag (id:=4) (.range 14) ?_|refine ae (id:=8) (.range 15) 13 [0,5,10] ?_|refine cL (id:=8) 5 6 (.range 15) 14 [0] ?_|(refine ab ?_;intro K hK)|(refine hK _ ?_;clear hK K)|refine ax ?_|(refine aF ?_ ?_<;>intro hc<;>(try simp only[cS]at hc)<;>(try exact aG))|refine aX ?_|refine az ?_|(refine bQ ?_;intro g)|(refine ai (aa iI rfl Ce iI) rfl ?_;intro u)|(refine aD (au bB [(x.dest,(x.ended 0).seq)] iI iI iI rfl rfl rfl rfl rfl iI rfl rfl rfl) rfl rfl rfl ?_;intro vs)|(refine aD (aR rfl rfl iI iI rfl iI iI lA (by first|omega|(simp[al]<;>omega)) rfl) rfl rfl rfl ?_;intro va))
    show aq _ ((hex _)*R')
    refine aq.mX va ?_
    rw[ho,h3]
    simp only[lu,cU]
    exact ah
   ·have ho:jh nb (pre++[d]) ls=jh nb pre ls:=by simp[jh,OB,c3]
    repeat' (first|refine ag (id:=4) (.range 14) ?_|(refine ab ?_;intro K hK)|(refine hK _ ?_;clear hK K)|refine ax ?_|(refine aF ?_ ?_<;>intro hc<;>(try simp only[cS]at hc)<;>(try exact aG))|refine aX ?_|refine az ?_|(refine ai (aa iI rfl Ce iI) rfl ?_;intro u))
    show aq _ ((hex _)*R')
    refine aq.mX v ?_
    rw[ho,h3]
    simp only[lu,cU]
    exact ah
  ·have QO:x.brk nb=x:=by unfold Ln.brk;rw[if_neg c1]
   rw[QO]at h3
   have ho:jh nb (pre++[d]) ls=jh nb pre ls:=by
    have:¬(x.valid=true∧x.next=nb∧0<x.before.length):=fun h=>c1 ⟨h.1,h.2.1⟩
    simp only[jh,List.filterMap_append,List.filterMap_cons,List.filterMap_nil,OB,if_neg this,List.append_nil]
   by_cases c2:x.valid=true
   ·have c3:¬x.next=nb:=fun h=>c1 ⟨c2,h⟩
    rw[c2]
    repeat' (first|refine ag (id:=4) (.range 14) ?_|(refine ab ?_;intro K hK)|(refine hK _ ?_;clear hK K)|refine ax ?_|(refine aF ?_ ?_<;>intro hc<;>(try simp only[cS]at hc)<;>(try exact aG))|refine aX ?_|refine az ?_)
    show aq _ ((hex _)*R')
    refine aq.mX v ?_
    rw[ho,h3]
    simp only[lu,cU,c2]
    exact ah
   ·have VA:x.valid=false:=by simpa using c2
    rw[VA]
    repeat' (first|refine ag (id:=4) (.range 14) ?_|(refine ab ?_;intro K hK)|(refine hK _ ?_;clear hK K)|refine ax ?_|(refine aF ?_ ?_<;>intro hc<;>(try simp only[cS]at hc)<;>(try exact aG))|refine az ?_)
    show aq _ ((hex _)*R')
    refine aq.mX v ?_
    rw[ho,h3]
    simp only[lu,cU,VA]
    exact ah
 ·intro b xs ta
  subst ta
  refine hK _ ?_
  refine cV (H':=(hex fun v=>aK g5 42 [v]*(rows 180 2 bB v (jh nb (aQ (aO ls)) ls)*(aK g3 26 [u32 nb]*dN bs (tj nb (aQ (aO ls)) ls))))*(pW b*((aK gt 216 [u32 self,.map (some r)]*mp u32 gw r (lmap bs ls))*G))) (ah) ?_
  refine iU fun v=> ?_
  rw[Jp]
  repeat' (first|(refine ab ?_;intro K hK)|(refine hK _ ?_;clear hK K)|refine ax ?_|refine az ?_)
  refine sx ?_
  refine vU (fun h=>by cases h) iI ?_
  refine mn rfl (bh rfl) ⟨v,rfl,?_⟩
  rw[GW]
  exact ah
 ·intro b c pre
  exact jR (φ:=False) fun h=>h.elim
def cE (ls:List Ln):List Ln:=(aQ (aO ls)).filterMap (dG ls)
abbrev da:=Ln×(Option Addr×Nat)
def bJ (p:da):List Value:=bM p.1 (il p.1 p.2)
instance:cY bJ 7:=⟨fun _=>rfl⟩
theorem nW:∀z,∀c∈bJ z,c.oneCell'=true:=by
 intro z c hc
 simp[bJ,bM]at hc
 rcases hc with rfl|rfl|rfl|rfl|rfl|rfl|rfl<;>rfl
def cQ:List da→af
 |[]=>emp
 |p::r=>rows 26 1 cA (il p.1 p.2) (aQ p.1.before)*cQ r
theorem yT:∀(ps:List da) (p:da),cQ (ps++[p])=rows 26 1 cA (il p.1 p.2) (aQ p.1.before)*cQ ps
 |[],p=>rfl
 |q::ps,p=>by
  show _*cQ (ps++[p])=_
  rw[yT ps p,aM];rfl
theorem EE (gt r:Nat) (self:UInt32) (bs:List (Nat×Nat)) (ls:List Ln) (hlen:bs.length=ls.length) (hn:(aO ls).Nodup) (Ol:ls.length≤12) (hb:∀l∈ls,l.before.length≤12):
 Spec Tryz.prog w0 75 [ptr gt 0] (dO gt r self bs ls) (fun x:Value×List da=>x.1) (fun x=>pure' (x.2.map (·.1)=cE ls)*(rows 53 7 bJ x.1 x.2*(cQ x.2*dO gt r self bs ls))):=by
 have it:=sa w0 gt r self bs ls hlen Ol
 refine Spec.jr Tryz.func75 rfl Tryz.ntmps75 rfl fun G=> ?_
 simp only[aN,dO]
 repeat' (first|(refine ab ?_;intro K hK)|(refine hK _ ?_;clear hK K)|refine ax ?_|refine az ?_|(refine bT ?_;intro g))
 revert g;intro g3
 refine cV (aq.nil _ 53 7 bJ none) ?_
 refine cV (H':=(aK gt 216 [u32 self,.map (some r)]*mp u32 gw r (lmap bs ls))*((hex fun x:Value×List da=>pure' (x.2.map (·.1)=([]:List UInt32).filterMap (dG ls))*(aK g3 49 [x.1]*(rows 53 7 bJ x.1 x.2*(cQ x.2*dN bs ls))))*G)) (aq.trans (F:=(hex fun x:Value×List da=>pure' (x.2.map (·.1)=([]:List UInt32).filterMap (dG ls))*(aK g3 49 [x.1]*(rows 53 7 bJ x.1 x.2*(cQ x.2*dN bs ls))))*((aK gt 216 [u32 self,.map (some r)]*mp u32 gw r (lmap bs ls))*G)) (aq.mX (p:=fun x:Value×List da=>pure' (x.2.map (·.1)=([]:List UInt32).filterMap (dG ls))*(aK g3 49 [x.1]*(rows 53 7 bJ x.1 x.2*(cQ x.2*dN bs ls)))) (Value.slice none 0 0,[]) (by rw[ad (pure' _)];refine aq.ji rfl ?_;simp only[cQ];exact ah)) (ah)) ?_
 refine mB (fb:=[ptr gt 0]) rfl rfl iI it rfl (fun _=>rfl) (fun pre=>hex fun x:Value×List da=>pure' (x.2.map (·.1)=pre.filterMap (dG ls))*(aK g3 49 [x.1]*(rows 53 7 bJ x.1 x.2*(cQ x.2*dN bs ls)))) (fun _ _=>pure' False) rfl ?_ ?_ ?_
 ·rintro l pre d R ⟨xs,rfl,Lt⟩
  have QX:d∈aO ls:=pI.1 (Lt.subset (by simp))
  have Mn:pre.length+1≤12:=by
   have:=Lt.length_le
   rw[cF]at this
   simp[aO]at this;omega
  have Ur:=tS hlen QX
  obtain⟨j,rb,x,hx,QN,Lx⟩:=xy (by obtain⟨i,_,hi⟩:=tT Ur;exact List.mem_of_getElem? hi)
  obtain⟨F,h1,h2⟩:=kK QN hx
  have OB:dG ls d=some x:=eO (Lx▸iB hn hx) hx
  have PY:=uy w0 (uw bs ls d) rb x (hb x (List.mem_of_getElem? hx))
  generalize uw bs ls d=b at*
  refine iU fun y=> ?_
  rw[ad (pure' _)]
  refine jR fun hy=> ?_
  obtain⟨v,ps⟩:=y
  have Mo:ps.length≤12:=by
   have e1:=congrArg List.length hy
   have e2:=List.length_filterMap_le (dG ls) pre
   simp at e1;omega
  rw[h1]
  simp only[lu,cU,yU]at PY ⊢
  repeat' (first|refine ax ?_|refine az ?_)
  refine vI rfl (aK g3 49 [v]*(rows 53 7 bJ v ps*(cQ ps*(aK b 230 (cU x rb)*(mp u32 jO rb (kc x.before)*F))))) (by simp only[cU];exact ah) fun R'=> ?_
  simp only[cU]
  repeat' (first|refine ae (id:=4) (.range 6) 2 [0] ?_|refine cK (id:=4) 3 (.range 6) 5 [0] ?_|refine ax ?_|refine az ?_|(refine bQ ?_;intro g)|(refine aD (aa iI rfl PY iI) rfl rfl rfl ?_;intro p)|(refine aD (au bJ [(x,p)] iI iI iI rfl rfl rfl rfl rfl iI rfl rfl rfl) rfl rfl rfl ?_;intro vs)|(refine aD (aR rfl rfl iI iI rfl iI iI nW (by first|omega|(simp[al]<;>omega)) rfl) rfl rfl rfl ?_;intro va))
  show aq _ ((hex _)*R')
  refine aq.mX (va,ps++[(x,p)]) ?_
  rw[ad (pure' _)]
  refine aq.ji (by rw[List.map_append,List.filterMap_append];simp only[List.map_cons,List.map_nil,List.filterMap_cons,List.filterMap_nil,OB];simp only at hy;rw[hy]) ?_
  dsimp only
  rw[yT]
  simp only[lu,cU]
  exact ah
 ·intro b xs ta
  subst ta
  refine hK _ ?_
  refine cV (H':=(hex fun x:Value×List da=>pure' (x.2.map (·.1)=(aQ (aO ls)).filterMap (dG ls))*(aK g3 49 [x.1]*(rows 53 7 bJ x.1 x.2*(cQ x.2*dN bs ls))))*(pW b*((aK gt 216 [u32 self,.map (some r)]*mp u32 gw r (lmap bs ls))*G))) (ah) ?_
  refine iU fun y=> ?_
  rw[ad (pure' _)]
  refine jR fun hy=> ?_
  obtain⟨v,ps⟩:=y
  repeat' (first|(refine ab ?_;intro K hK)|(refine hK _ ?_;clear hK K)|refine ax ?_|refine az ?_)
  refine sx ?_
  refine vU (fun h=>by cases h) iI ?_
  refine mn rfl (bh rfl) ⟨(v,ps),rfl,?_⟩
  rw[ad (pure' _)]
  refine aq.ji hy ?_
  exact ah
 ·intro b c pre
  exact jR (φ:=False) fun h=>h.elim
end
section
structure Tm where
 at_:UInt64
 id:Int
 km:Int
deriving DecidableEq
instance:Inhabited Tm:=⟨⟨0,0,0⟩⟩
def Tm.ahead (t u:Tm):Bool:=decide (t.at_<u.at_)||(decide (t.at_=u.at_)&&decide (t.id<u.id))
theorem ly {t u:Tm}:t.ahead u=true↔(t.at_.toNat<u.at_.toNat∨(t.at_.toNat=u.at_.toNat∧t.id<u.id)):=by
 simp[Tm.ahead,UInt64.lt_iff_toNat_lt,←UInt64.toNat_inj]
theorem jS (t:Tm):t.ahead t=false:=by
 cases h:t.ahead t with
 |false=>rfl
 |true=>rw[ly]at h;omega
theorem oH {t u v:Tm} (h:t.ahead u=true) (h2:u.ahead v=true):t.ahead v=true:=by
 rw[ly]at*;omega
theorem iy {t u:Tm} (h:t.ahead u=true):u.ahead t=false:=by
 cases h2:u.ahead t with
 |false=>rfl
 |true=>rw[ly]at*;omega
theorem j0 {t u v:Tm} (h:u.ahead t=false) (h2:v.ahead u=false):v.ahead t=false:=by
 cases h3:v.ahead t with
 |false=>rfl
 |true=>
  have h':¬u.ahead t=true:=by simp[h]
  have Lj:¬v.ahead u=true:=by simp[h2]
  rw[ly]at*;omega
def cJ (l:List Tm) (k:Nat):Tm:=l[k]?.getD default
theorem hZ {l:List Tm} {k:Nat} (h:k<l.length):l[k]? =some (cJ l k):=by simp[cJ,h]
theorem Jg {l:List Tm} {k:Nat} {t:Tm} (h:l[k]? =some t):cJ l k=t:=by simp[cJ,h]
def swp (l:List Tm) (i j:Nat):List Tm:=(l.set i (cJ l j)).set j (cJ l i)
@[simp] theorem eT (l:List Tm) (i j:Nat):(swp l i j).length=l.length:=by simp[swp]
theorem FI {l:List Tm} {i:Nat} (t:Tm) (h:i<l.length) (k:Nat):cJ (l.set i t) k=if k=i then t else cJ l k:=by
 unfold cJ
 rw[List.getElem?_set]
 by_cases e:i=k
 ·subst e;simp[h]
 ·simp[e,Ne.symm e]
theorem fE {l:List Tm} {i j:Nat} (hi:i<l.length) (hj:j<l.length) (k:Nat):cJ (swp l i j) k=if k=j then cJ l i else if k=i then cJ l j else cJ l k:=by
 unfold swp
 rw[FI _ (by simpa using hj),FI _ hi]
theorem kN {l:List Tm} {i j:Nat} (hi:i<l.length) (hj:j<l.length):(swp l i j).Perm l:=by
 have e1:cJ l i=l[i]:=by simp[cJ,hi]
 have e2:cJ l j=l[j]:=by simp[cJ,hj]
 unfold swp
 rw[e1,e2]
 exact List.set_set_perm hi hj
def Bu:Nat→List Tm→Nat→List Tm
 |0,l,_=>l
 |f+1,l,i=>if 0<i∧(cJ l i).ahead (cJ l ((i - 1) / 2))=true then Bu f (swp l i ((i - 1) / 2)) ((i - 1) / 2)else l
def fY (l:List Tm) (i:Nat):Nat:=
 let a:=if 2*i+1<l.length∧(cJ l (2*i+1)).ahead (cJ l i)=true then 2*i+1 else i
 if 2*i+2<l.length∧(cJ l (2*i+2)).ahead (cJ l a)=true then 2*i+2 else a
def ka:Nat→List Tm→Nat→List Tm
 |0,l,_=>l
 |f+1,l,i=>if fY l i=i then l else ka f (swp l i (fY l i)) (fY l i)
theorem tF {l:List Tm} {i:Nat} (h:i<l.length):fY l i<l.length:=by
 unfold fY;simp only;repeat' split
 all_goals omega
theorem AE (l:List Tm) (i:Nat):fY l i=i∨(fY l i=2*i+1∧2*i+1<l.length)∨(fY l i=2*i+2∧2*i+2<l.length):=by
 unfold fY;simp only;repeat' split
 all_goals omega
theorem uA (l:List Tm) (i:Nat):(∀k,(k=2*i+1∨k=2*i+2)→k<l.length→(cJ l k).ahead (cJ l (fY l i))=false)∧(cJ l i).ahead (cJ l (fY l i))=false∧(fY l i≠i→(cJ l (fY l i)).ahead (cJ l i)=true):=by
 unfold fY
 by_cases h1:2*i+1<l.length∧(cJ l (2*i+1)).ahead (cJ l i)=true
 ·simp only[h1,and_self,if_true]
  by_cases h2:2*i+2<l.length∧(cJ l (2*i+2)).ahead (cJ l (2*i+1))=true
  ·simp only[h2,and_self,if_true]
   refine⟨fun k hk hl=> ?_,iy (oH h2.2 h1.2),fun _=>oH h2.2 h1.2⟩
   rcases hk with rfl|rfl
   ·exact iy h2.2
   ·exact jS _
  ·simp only[h2,if_false]
   refine⟨fun k hk hl=> ?_,iy h1.2,fun _=>h1.2⟩
   rcases hk with rfl|rfl
   ·exact jS _
   ·cases hh:(cJ l (2*i+2)).ahead (cJ l (2*i+1))with
    |false=>rfl
    |true=>exact absurd ⟨hl,hh⟩ h2
 ·simp only[h1,if_false]
  by_cases h2:2*i+2<l.length∧(cJ l (2*i+2)).ahead (cJ l i)=true
  ·rw[if_pos h2]
   refine⟨fun k hk hl=> ?_,iy h2.2,fun _=>h2.2⟩
   rcases hk with rfl|rfl
   ·cases hh:(cJ l (2*i+1)).ahead (cJ l (2*i+2))with
    |false=>rfl
    |true=>exact absurd ⟨hl,oH hh h2.2⟩ h1
   ·exact jS _
  ·simp only[h2,if_false]
   refine⟨fun k hk hl=> ?_,jS _,fun h=>absurd rfl h⟩
   rcases hk with rfl|rfl
   ·cases hh:(cJ l (2*i+1)).ahead (cJ l i)with
    |false=>rfl
    |true=>exact absurd ⟨hl,hh⟩ h1
   ·cases hh:(cJ l (2*i+2)).ahead (cJ l i)with
    |false=>rfl
    |true=>exact absurd ⟨hl,hh⟩ h2
theorem Dt (f:Nat):∀(l:List Tm) (i:Nat),i<l.length→(Bu f l i).Perm l:=by
 induction f with
 |zero=>intro l i _;exact List.Perm.refl _
 |succ f ih=>
  intro l i hi
  unfold Bu
  split
  ·exact(ih _ _ (by simp;omega)).trans (kN hi (by omega))
  ·exact List.Perm.refl _
theorem ke (f:Nat):∀(l:List Tm) (i:Nat),i<l.length→(ka f l i).Perm l:=by
 induction f with
 |zero=>intro l i _;exact List.Perm.refl _
 |succ f ih=>
  intro l i hi
  unfold ka
  split
  ·exact List.Perm.refl _
  ·exact(ih _ _ (by simpa using tF hi)).trans (kN hi (tF hi))
def Hp (l:List Tm):Prop:=∀k,0<k→k<l.length→(cJ l k).ahead (cJ l ((k - 1) / 2))=false
def NU (l:List Tm) (i:Nat):Prop:=(∀k,0<k→k<l.length→k≠i→(cJ l k).ahead (cJ l ((k - 1) / 2))=false)∧(0<i→∀k,0<k→k<l.length→(k - 1) / 2=i→(cJ l k).ahead (cJ l ((i - 1) / 2))=false)
def NT (l:List Tm) (i:Nat):Prop:=(∀k,0<k→k<l.length→k≠i→(k - 1) / 2≠i→(cJ l k).ahead (cJ l ((k - 1) / 2))=false)∧(0<i→∀k,0<k→k<l.length→(k - 1) / 2=i→(cJ l k).ahead (cJ l ((i - 1) / 2))=false)
theorem Hp.up {l:List Tm} (h:Hp l) (i:Nat) (hi:i<l.length):NU l i:=
 ⟨fun k h1 h2 _=>h k h1 h2,fun h0 k h1 h2 h3=>j0 (h i h0 hi) (h3▸h k h1 h2)⟩
theorem K9 (f:Nat):∀(l:List Tm) (i:Nat),i<l.length→i≤f→NU l i→Hp (Bu f l i):=by
 induction f with
 |zero=>
  intro l i hi hf h k h1 h2
  exact h.1 k h1 h2 (by omega)
 |succ f ih=>
  intro l i hi hf h
  unfold Bu
  split
  ·rename_i hc
   obtain⟨h0,ha⟩:=hc
   have hp:(i - 1) / 2<l.length:=by omega
   have Zg:(i - 1) / 2<i:=by omega
   refine ih _ _ (by simpa using hp) (by omega) ⟨fun k h1 h2 mi=> ?_,fun X4 k h1 h2 hk=> ?_⟩
   ·simp only[eT]at h2
    rw[fE hi hp,fE hi hp,if_neg mi]
    by_cases AK:k=i
    ·subst AK
     rw[if_pos rfl,if_pos rfl];exact iy ha
    ·rw[if_neg AK]
     by_cases OL:(k - 1) / 2=(i - 1) / 2
     ·rw[if_pos OL]
      have:=h.1 k h1 h2 AK
      rw[OL]at this
      exact j0 (iy ha) this
     ·rw[if_neg OL]
      by_cases OM:(k - 1) / 2=i
      ·rw[if_pos OM]
       exact h.2 h0 k h1 h2 OM
      ·rw[if_neg OM]
       exact h.1 k h1 h2 AK
   ·simp only[eT]at h2
    have hq:=h.1 ((i - 1) / 2) X4 hp (by omega)
    rw[fE hi hp,fE hi hp,if_neg (by omega),if_neg (c:=((i - 1) / 2 - 1) / 2=(i - 1) / 2) (by omega),if_neg (c:=((i - 1) / 2 - 1) / 2=i) (by omega)]
    by_cases AK:k=i
    ·subst AK;rw[if_pos rfl];exact hq
    ·rw[if_neg AK]
     have:=h.1 k h1 h2 AK
     rw[hk]at this
     exact j0 hq this
  ·rename_i hc
   intro k h1 h2
   by_cases AK:k=i
   ·subst AK
    cases hh:(cJ l k).ahead (cJ l ((k - 1) / 2))with
    |false=>rfl
    |true=>exact absurd ⟨h1,hh⟩ hc
   ·exact h.1 k h1 h2 AK
theorem JD (f:Nat):∀(l:List Tm) (i:Nat),i<l.length→l.length≤f+i→NT l i→((0<i→(cJ l i).ahead (cJ l ((i - 1) / 2))=false)→Hp (ka f l i))∧NU (ka f l i) i:=by
 induction f with
 |zero=>intro l i hi hf h;omega
 |succ f ih=>
  intro l i hi hf h
  unfold ka
  split
  ·rename_i hc
   obtain⟨s1,_,_⟩:=uA l i
   rw[hc]at s1
   have l9:∀k,0<k→k<l.length→k≠i→(cJ l k).ahead (cJ l ((k - 1) / 2))=false:=fun k h1 h2 h3=>by
    by_cases hk:(k - 1) / 2=i
    ·rw[hk];exact s1 k (by omega) h2
    ·exact h.1 k h1 h2 h3 hk
   refine⟨fun Uz k h1 h2=> ?_,l9,h.2⟩
   by_cases hk:k=i
   ·subst hk;exact Uz h1
   ·exact l9 k h1 h2 hk
  ·rename_i hc
   obtain⟨s1,s2,s3⟩:=uA l i
   have s3:=s3 hc
   have zp:=tF hi
   have zm:=AE l i
   generalize fY l i=j at*
   have pZ:i<j:=by omega
   have UB:(j - 1) / 2=i:=by omega
   have l5:NT (swp l i j) j:=by
    refine⟨fun k h1 h2 h3 h4=> ?_,fun h0 k h1 h2 hk=> ?_⟩
    ·simp only[eT]at h2
     rw[fE hi zp,fE hi zp,if_neg h3,if_neg h4]
     by_cases AK:k=i
     ·subst AK
      rw[if_pos rfl,if_neg (by omega)]
      exact h.2 h1 j (by omega) zp UB
     ·rw[if_neg AK]
      by_cases OL:(k - 1) / 2=i
      ·rw[if_pos OL];exact s1 k (by omega) h2
      ·rw[if_neg OL];exact h.1 k h1 h2 AK OL
    ·simp only[eT]at h2
     rw[fE hi zp,fE hi zp,if_neg (by omega),if_neg (by omega),if_neg (by omega),if_pos UB]
     have:=h.1 k h1 h2 (by omega) (by omega)
     rwa[hk]at this
   have Uz:0<j→(cJ (swp l i j) j).ahead (cJ (swp l i j) ((j - 1) / 2))=false:=fun _=>by
    rw[fE hi zp,fE hi zp,if_pos rfl,if_neg (by omega),if_pos UB]
    exact iy s3
   obtain⟨g1,_⟩:=ih (swp l i j) j (by simpa using zp) (by simp;omega) l5
   have hH:=g1 Uz
   refine⟨fun _=>hH,hH.up i ?_⟩
   have:=(ke f (swp l i j) j (by simpa using zp)).length_eq
   rw[this];simpa using hi
theorem Hp.min {l:List Tm} (h:Hp l):∀k,k<l.length→(cJ l k).ahead (cJ l 0)=false:=by
 intro k
 induction k using Nat.strongRecOn with
 |_ k ih=>
  intro hk
  by_cases h0:k=0
  ·subst h0;exact jS _
  ·exact j0 (ih ((k - 1) / 2) (by omega) (by omega)) (h k (by omega) hk)
def L1 (l:List Tm) (t:Tm):List Tm:=Bu l.length (l++[t]) l.length
theorem GP (l:List Tm) (t:Tm):(L1 l t).Perm (l++[t]):=Dt _ _ _ (by simp)
theorem L2 {l:List Tm} (t:Tm) (h:Hp l):Hp (L1 l t):=by
 have e:∀k,k<l.length→cJ (l++[t]) k=cJ l k:=fun k hk=>by simp[cJ,List.getElem?_append,hk]
 refine K9 _ _ _ (by simp) (Nat.le_refl _) ⟨fun k h1 h2 h3=> ?_,fun h0 k h1 h2 h3=> ?_⟩
 ·simp only[List.length_append,List.length_cons,List.length_nil]at h2
  rw[e k (by omega),e _ (by omega)]
  exact h k h1 (by omega)
 ·simp only[List.length_append,List.length_cons,List.length_nil]at h2
  omega
def qz (l:List Tm) (i:Nat):List Tm:=(swp l i (l.length - 1)).take (l.length - 1)
def yH (l:List Tm) (i:Nat):List Tm:=if i<l.length - 1 then Bu i (ka l.length (qz l i) i) i else qz l i
theorem kI {l:List Tm} {i:Nat}:(qz l i).length=l.length - 1:=by simp[qz]
theorem yY {l:List Tm} {i:Nat} (hi:i<l.length):(cJ l i::qz l i).Perm l:=by
 have hp:=kN hi (show l.length - 1<l.length by omega)
 refine List.Perm.trans ?_ hp
 have h1:(swp l i (l.length - 1)).drop (l.length - 1)=[cJ l i]:=by
  apply List.ext_getElem?
  intro k
  rw[List.getElem?_drop]
  by_cases hk:k=0
  ·subst hk
   rw[hZ (by simp;omega),fE hi (by omega)]
   simp
  ·rw[List.getElem?_eq_none (by simp;omega),List.getElem?_eq_none (by simp;omega)]
 have h2:=List.take_append_drop (l.length - 1) (swp l i (l.length - 1))
 rw[h1]at h2
 rw[←h2,qz]
 exact(List.perm_append_singleton _ _).symm
theorem H5 {l:List Tm} {i:Nat} (hi:i<l.length):(cJ l i::yH l i).Perm l:=by
 unfold yH
 split
 ·refine List.Perm.trans (List.Perm.cons _ ?_) (yY hi)
  have hd:=ke l.length (qz l i) i (by rw[kI];omega)
  exact(Dt _ _ _ (by rw[hd.length_eq,kI];omega)).trans hd
 ·exact yY hi
theorem mQ {l:List Tm} {i:Nat} (hi:i<l.length) {k:Nat} (hk:k<l.length - 1):cJ (qz l i) k=if k=i then cJ l (l.length - 1)else cJ l k:=by
 have:cJ (qz l i) k=cJ (swp l i (l.length - 1)) k:=by simp only[cJ,qz,List.getElem?_take,if_pos hk]
 rw[this,fE hi (by omega),if_neg (by omega)]
theorem MJ {l:List Tm} {i:Nat} (hi:i<l.length) (h:Hp l):Hp (yH l i):=by
 unfold yH
 split
 ·rename_i bW
  have hl:= @kI l i
  have l5:NT (qz l i) i:=by
   refine⟨fun k h1 h2 h3 h4=> ?_,fun h0 k h1 h2 hk=> ?_⟩
   ·rw[hl]at h2
    rw[mQ hi h2,mQ hi (by omega),if_neg h3,if_neg h4]
    exact h k h1 (by omega)
   ·rw[hl]at h2
    rw[mQ hi h2,mQ hi (by omega),if_neg (by omega),if_neg (by omega)]
    have e1:=h k h1 (by omega)
    rw[hk]at e1
    exact j0 (h i h0 (by omega)) e1
  obtain⟨_,g⟩:=JD l.length (qz l i) i (by rw[hl];omega) (by rw[hl];omega) l5
  have hd:=(ke l.length (qz l i) i (by rw[hl];omega)).length_eq
  exact K9 i _ i (by rw[hd,hl];omega) (Nat.le_refl _) g
 ·rename_i bW
  intro k h1 h2
  rw[kI]at h2
  rw[mQ hi h2,mQ hi (by omega),if_neg (by omega),if_neg (by omega)]
  exact h k h1 (by omega)
end
section
def vE (l:List Tm):Prop:=(l.map (·.id)).Nodup
theorem vE.perm {l L:List Tm} (h:vE l) (p:l.Perm L):vE L:=(p.map _).nodup_iff.1 h
theorem vE.inj {l:List Tm} (h:vE l) {a b:Nat} (ha:a<l.length) (hb:b<l.length) (e:(cJ l a).id=(cJ l b).id):a=b:=by
 have h':(l.map (·.id)).Nodup:=h
 exact(List.getElem_inj (xs:=l.map (·.id)) (h₀:=by simpa using ha) (h₁:=by simpa using hb) h').1 (by simpa [cJ,ha,hb]using e)
theorem sh {l:List Tm} {t:Tm}:t∈l↔∃k,k<l.length∧cJ l k=t:=by
 rw[List.mem_iff_getElem]
 constructor
 ·rintro⟨k,hk,rfl⟩;exact⟨k,hk,by simp[cJ,hk]⟩
 ·rintro⟨k,hk,rfl⟩;exact⟨k,hk,by simp[cJ,hk]⟩
theorem rB {l:List Tm} {k:Nat} (h:k<l.length):cJ l k∈l:=sh.2 ⟨k,h,rfl⟩
def kB (l:List Tm) (m:List (Int×Int)):Prop:=KN m∧∀id v,bX m id=some v↔∃k:Nat,k<l.length∧(cJ l k).id=id∧v=(k:Int)
theorem kB.nil:kB [] []:=⟨KN.nil,fun id v=>by simp[sl]⟩
theorem kB.swap {l:List Tm} {m:List (Int×Int)} (h:kB l m) (hn:vE l) {i j:Nat} (hi:i<l.length) (hj:j<l.length):
 kB (swp l i j) (bY (bY m (cJ (swp l i j) i).id (i:Int)) (cJ (swp l i j) j).id (j:Int)):=by
 have AL:vE (swp l i j):=hn.perm (kN hi hj).symm
 refine⟨(h.1.bY _ _).bY _ _,fun id v=> ?_⟩
 rw[fo,fo]
 have qF:j<(swp l i j).length:=by simpa using hj
 have OD:i<(swp l i j).length:=by simpa using hi
 by_cases e1:(cJ (swp l i j) j).id=id
 ·rw[if_pos e1]
  constructor
  ·intro e;cases e;exact⟨j,qF,e1,rfl⟩
  ·rintro⟨k,hk,e,rfl⟩
   rw[AL.inj hk qF (e.trans e1.symm)]
 ·rw[if_neg e1]
  by_cases e2:(cJ (swp l i j) i).id=id
  ·rw[if_pos e2]
   constructor
   ·intro e;cases e;exact⟨i,OD,e2,rfl⟩
   ·rintro⟨k,hk,e,rfl⟩
    rw[AL.inj hk OD (e.trans e2.symm)]
  ·rw[if_neg e2,h.2 id v]
   have a1:=fE hi hj j
   have a2:=fE hi hj i
   rw[if_pos rfl]at a1
   constructor
   ·rintro⟨k,hk,e,rfl⟩
    have k1:k≠i:=by rintro rfl;rw[a1]at e1;exact e1 e
    have k2:k≠j:=by
     rintro rfl
     by_cases OE:i=k
     ·subst OE;rw[a1]at e1;exact e1 e
     ·rw[if_neg OE,if_pos rfl]at a2;rw[a2]at e2;exact e2 e
    exact⟨k,by simpa using hk,by rw[fE hi hj,if_neg k2,if_neg k1];exact e,rfl⟩
   ·rintro⟨k,hk,e,rfl⟩
    have k1:k≠i:=by rintro rfl;exact e2 e
    have k2:k≠j:=by rintro rfl;exact e1 e
    rw[fE hi hj,if_neg k2,if_neg k1]at e
    exact⟨k,by simpa using hk,e,rfl⟩
theorem nD {l:List Tm} (t:Tm) (k:Nat):cJ (l++[t]) k=if k=l.length then t else cJ l k:=by
 unfold cJ
 rw[List.getElem?_append]
 split
 ·rw[if_neg (by omega)]
 ·split
  ·rename_i h;subst h;simp
  ·rw[List.getElem?_eq_none (by simp;omega),List.getElem?_eq_none (by omega)]
theorem kB.snoc {l:List Tm} {m:List (Int×Int)} (h:kB l m) (t:Tm) (ht:∀u∈l,u.id≠t.id):kB (l++[t]) (bY m t.id (l.length:Int)):=by
 refine⟨h.1.bY _ _,fun id v=> ?_⟩
 rw[fo]
 by_cases e:t.id=id
 ·rw[if_pos e]
  constructor
  ·intro e2;cases e2;exact⟨l.length,by simp,by rw[nD,if_pos rfl];exact e,rfl⟩
  ·rintro⟨k,hk,e2,rfl⟩
   rw[nD]at e2
   split at e2
   ·rename_i vS;rw[vS]
   ·simp at hk
    exact absurd (e2.trans e.symm) (ht _ (rB (by omega)))
 ·rw[if_neg e,h.2]
  constructor
  ·rintro⟨k,hk,e2,rfl⟩;exact⟨k,by simp;omega,by rw[nD,if_neg (by omega)];exact e2,rfl⟩
  ·rintro⟨k,hk,e2,rfl⟩
   rw[nD]at e2
   split at e2
   ·exact absurd e2 e
   ·simp at hk;exact⟨k,by omega,e2,rfl⟩
theorem wI {l:List Tm} {n k:Nat} (h:k<n):cJ (l.take n) k=cJ l k:=by simp only[cJ,List.getElem?_take,if_pos h]
theorem kB.pop {l:List Tm} {m:List (Int×Int)} (h:kB l m) (hn:vE l) (h0:0<l.length):kB (l.take (l.length - 1)) (gq m (cJ l (l.length - 1)).id):=by
 refine⟨h.1.gq _,fun id v=> ?_⟩
 rw[nh h.1]
 by_cases e:(cJ l (l.length - 1)).id=id
 ·rw[if_pos e]
  constructor
  ·intro e2;cases e2
  ·rintro⟨k,hk,e2,rfl⟩
   simp at hk
   rw[wI (by omega)]at e2
   have:=hn.inj (by omega) (by omega) (e2.trans e.symm)
   omega
 ·rw[if_neg e,h.2]
  constructor
  ·rintro⟨k,hk,e2,rfl⟩
   have:k≠l.length - 1:=by rintro rfl;exact e e2
   exact⟨k,by simp;omega,by rw[wI (by omega)];exact e2,rfl⟩
  ·rintro⟨k,hk,e2,rfl⟩
   simp at hk
   rw[wI (by omega)]at e2
   exact⟨k,by omega,e2,rfl⟩
def gN (L:List Tm) (now:UInt64):Nat→Option Nat
 |0=>none
 |n+1=>match gN L now n with
  |none=>if(cJ L n).at_≤now then some n else none
  |some b=>if(cJ L n).at_≤now∧(cJ L n).at_<(cJ L b).at_ then some n else some b
theorem nF {L:List Tm} {now:UInt64}:∀{n:Nat},gN L now n=none→∀j,j<n→now<(cJ L j).at_
 |0,_,j,hj=>absurd hj (Nat.not_lt_zero _)
 |n+1,h,j,hj=>by
  simp only[gN]at h
  cases hb:gN L now n with
  |none=>
   rw[hb]at h
   simp only at h
   split at h
   ·cases h
   ·rename_i hc
    by_cases e:j=n
    ·subst e;simpa [UInt64.lt_iff_toNat_lt,UInt64.le_iff_toNat_le]using hc
    ·exact nF hb j (by omega)
  |some b=>
   rw[hb]at h
   simp only at h
   split at h<;>cases h
theorem iz {L:List Tm} {now:UInt64}:∀{n b:Nat},gN L now n=some b→b<n∧(cJ L b).at_.toNat≤now.toNat∧(∀j,j<n→(cJ L b).at_.toNat≤(cJ L j).at_.toNat)∧∀j,j<b→(cJ L b).at_.toNat<(cJ L j).at_.toNat
 |0,b,h=>by cases h
 |n+1,b,h=>by
  simp only[gN]at h
  cases hb:gN L now n with
  |none=>
   rw[hb]at h
   simp only at h
   split at h
   ·rename_i hc
    obtain rfl:n=b:=by simpa using h
    have h1:=nF hb
    rw[UInt64.le_iff_toNat_le]at hc
    refine⟨by omega,hc,fun j hj=> ?_,fun j hj=> ?_⟩
    ·by_cases e:j=n
     ·subst e;exact Nat.le_refl _
     ·have:=h1 j (by omega);rw[UInt64.lt_iff_toNat_lt]at this;omega
    ·have:=h1 j (by omega);rw[UInt64.lt_iff_toNat_lt]at this;omega
   ·cases h
  |some c=>
   rw[hb]at h
   obtain⟨g1,g2,g3,g4⟩:=iz hb
   simp only[UInt64.lt_iff_toNat_lt,UInt64.le_iff_toNat_le]at h
   split at h
   ·rename_i hc
    obtain rfl:n=b:=by simpa using h
    refine⟨by omega,hc.1,fun j hj=> ?_,fun j hj=> ?_⟩
    ·by_cases e:j=n
     ·subst e;exact Nat.le_refl _
     ·have:=g3 j (by omega);omega
    ·have:=g3 j (by omega);omega
   ·rename_i hc
    cases h
    refine⟨by omega,g2,fun j hj=> ?_,g4⟩
    by_cases e:j=n
    ·subst e;omega
    ·exact g3 j (by omega)
structure TR (l L:List Tm) (last:Int):Prop where
 perm:l.Perm L
 hp:Hp l
 rising:(L.map (·.id)).Pairwise (·<·)
 bound:∀t∈L,1≤t.id∧t.id≤last
theorem TR.nil:TR [] [] 0:=⟨List.Perm.refl _,fun k _ h=>absurd h (Nat.not_lt_zero _),List.Pairwise.nil,fun t h=>by cases h⟩
theorem TR.Ws {l L:List Tm} {last:Int} (h:TR l L last):vE L:=h.rising.imp (fun h=>by omega)
theorem TR.Wt {l L:List Tm} {last:Int} (h:TR l L last):vE l:=h.Ws.perm h.perm.symm
theorem TR.add {l L:List Tm} {last:Int} (h:TR l L last) (hl:0≤last) (t:Tm) (ht:t.id=last+1):TR (L1 l t) (L++[t]) (last+1):=by
 refine⟨(GP l t).trans (h.perm.append_right [t]),L2 t h.hp,?_,fun u hu=> ?_⟩
 ·rw[List.map_append]
  refine List.pairwise_append.2 ⟨h.rising,by simp,fun a ha b hb=> ?_⟩
  obtain⟨u,hu,rfl⟩:=List.mem_map.1 ha
  have:=h.bound u hu
  simp at hb;subst hb;omega
 ·rcases List.mem_append.1 hu with hu|hu
  ·have:=h.bound u hu;omega
  ·simp at hu;subst hu;omega
theorem w5 {L:List Tm} {k:Nat} (h:k<L.length):(cJ L k::L.eraseIdx k).Perm L:=by
 have e:cJ L k=L[k]:=by simp[cJ,h]
 rw[e]
 clear e
 induction L generalizing k with
 |nil=>simp at h
 |cons a L ih=>
  cases k with
  |zero=>simp
  |succ k=>
   have:=ih (k:=k) (by simpa using h)
   simp only[List.getElem_cons_succ,List.eraseIdx_cons_succ]
   exact(List.Perm.swap _ _ _).trans (this.cons a)
theorem TR.rem {l L:List Tm} {last:Int} (h:TR l L last) {i k:Nat} (hi:i<l.length) (hk:k<L.length) (e:(cJ l i).id=(cJ L k).id):cJ l i=cJ L k∧TR (yH l i) (L.eraseIdx k) last:=by
 have e1:cJ l i=cJ L k:=by
  have h1:=h.perm.mem_iff.1 (rB hi)
  obtain⟨j,hj,OI⟩:=sh.1 h1
  rw[←OI]at e ⊢
  rw[h.Ws.inj hj hk e]
 refine⟨e1,?_,MJ hi h.hp,?_,fun t ht=>h.bound t (List.mem_of_mem_eraseIdx ht)⟩
 ·have:=(H5 hi).trans (h.perm.trans (w5 hk).symm)
  rw[e1]at this
  exact this.cons_inv
 ·exact h.rising.sublist ((List.eraseIdx_sublist L k).map _)
theorem TR.idle {l L:List Tm} {last:Int} (h:TR l L last) {now:UInt64} (h0:0<l.length→now<(cJ l 0).at_):gN L now L.length=none:=by
 cases hb:gN L now L.length with
 |none=>rfl
 |some b=>
  obtain⟨g1,g2,_,_⟩:=iz hb
  have hm:=h.perm.mem_iff.2 (rB g1)
  obtain⟨j,hj,OI⟩:=sh.1 hm
  have h1:=h0 (by omega)
  have h2:=h.hp.min j hj
  rw[UInt64.lt_iff_toNat_lt]at h1
  have:¬(cJ l j).ahead (cJ l 0)=true:=by simp[h2]
  rw[ly,OI]at this
  omega
theorem TR.due {l L:List Tm} {last:Int} (h:TR l L last) {now:UInt64} (h0:0<l.length) (h1:¬now<(cJ l 0).at_):∃b,gN L now L.length=some b∧b<L.length∧cJ l 0=cJ L b∧TR (yH l 0) (L.eraseIdx b) last:=by
 obtain⟨j,hj,OI⟩:=sh.1 (h.perm.mem_iff.1 (rB h0))
 cases hb:gN L now L.length with
 |none=>
  have:=nF hb j hj
  rw[OI]at this
  exact absurd this h1
 |some b=>
  obtain⟨g1,g2,g3,g4⟩:=iz hb
  obtain⟨i,hi,Lp⟩:=sh.1 (h.perm.mem_iff.2 (rB g1))
  have h2:=h.hp.min i hi
  have h3:¬(cJ l i).ahead (cJ l 0)=true:=by simp[h2]
  rw[ly,Lp,←OI]at h3
  have h4:=g3 j hj
  have Uf:j=b:=by
   rcases Nat.lt_trichotomy j b with bW|he|OC
   ·have:=g4 j bW;omega
   ·exact he
   ·have:=List.pairwise_iff_getElem.1 h.rising b j (by simpa using g1) (by simpa using hj) OC
    simp only[List.getElem_map]at this
    have e1:cJ L b=L[b]:=by simp[cJ,g1]
    have e2:cJ L j=L[j]:=by simp[cJ,hj]
    rw[e1,e2]at h3
    rw[e1,e2]at h4
    omega
  subst Uf
  have hr:=h.rem h0 g1 (by rw[OI])
  exact⟨j,rfl,g1,hr.1,hr.2⟩
end
section
open Go.RowKit
attribute [local irreducible] WS LS cD eM cn cv Spec bA aK
variable (w0:World)
def MT (t:Tm):List Value:=[u64 t.at_,.int .i64 t.id,.int .i64 t.km]
instance:cY MT 3:=⟨fun _=>rfl⟩
theorem MU:∀z,∀c∈MT z,c.oneCell'=true:=by intro z c hc;simp[MT]at hc;rcases hc with rfl|rfl|rfl<;>rfl
abbrev lM (b:Nat) (v:Value) (r:Nat) (last:Int) (l:List Tm) (m:List (Int×Int)):af:=
 aK b 222 [v,.map (some r),.int .i64 last]*(rows 292 3 MT v l*mp i64 i64 r m)
theorem wC (t u:Tm):Spec Tryz.prog w0 233 [.agg (MT t).toArray,.agg (MT u).toArray] emp (fun _:Unit=> .bool (t.ahead u)) (fun _=>emp):=by
 refine Spec.enter Tryz.func233 rfl Tryz.ntmps233 rfl fun G=> ?_
 simp only[aN,MT]
 repeat' (first|(refine ab ?_;intro K hK)|(refine hK _ ?_;clear hK K)|refine ax ?_|(refine aF ?_ ?_<;>intro hc<;>(try simp only[cS]at hc)<;>(try exact aG))|refine az ?_|((first|refine dn rfl rfl iI rfl ?_ ?_|refine dm rfl rfl iI rfl ?_ ?_)<;>intro hc)|(refine bT ?_;intro g))
 all_goals exact aC (.inl rfl) rfl rfl ⟨(),by simp[Tm.ahead, *],ah⟩
theorem pS (b:Nat) (v:Value) (r:Nat) (last:Int) (l:List Tm) (m:List (Int×Int)) (i j:Nat) (x y:Int) (hx:x=(i:Int)) (hy:y=(j:Int)) (hi:i<l.length) (hj:j<l.length):
 Spec Tryz.prog w0 222 [ptr b 0,.int .i64 x,.int .i64 y] (lM b v r last l m) (fun _:Unit=> .tuple #[]) (fun _=>lM b v r last (swp l i j) (bY (bY m (cJ (swp l i j) i).id (i:Int)) (cJ (swp l i j) j).id (j:Int))):=by
 subst hx hy
 refine Spec.enter Tryz.func222 rfl Tryz.ntmps222 rfl fun G=> ?_
 simp only[aN]
 refine FE v iI iI rfl (by omega) fun g' off cap hv=> ?_
 subst hv
 have OO:=hZ hi
 have XS:=hZ hj
 have iu:((l.set i (cJ l j)).set j (cJ l i))[i]? =some (cJ (swp l i j) i):=hZ (by simpa using hi)
 have fP:((l.set i (cJ l j)).set j (cJ l i))[j]? =some (cJ (swp l i j) j):=hZ (by simpa using hj)
 repeat' (first|refine ae (id:=0) (.range 28) 25 [3,8,13,15,16,20,22,23,24] ?_|refine ae (id:=1) (.range 14) 13 [3,7,9,10,11] ?_|refine ae (id:=2) (.range 14) 13 [3,7,9,10,11] ?_|(refine ab ?_;intro K hK)|(refine hK _ ?_;clear hK K)|refine ax ?_|refine az ?_|((first|refine' bP rfl rfl rfl ?zh ?_|refine' bk rfl rfl ?zh ?_);case zh=>intro F';exact BC rfl rfl iI iI iI (by first|assumption|omega))|((refine' dP ?zh rfl rfl ?_);(case zh=>first|exact dt rfl rfl rfl iI iI iI iI iI|exact gV _ rfl rfl rfl iI iI iI rfl rfl (by first|assumption|omega|(simp[al]<;>omega)));intro g)|fail)
 exact aj (.inr rfl) rfl ⟨(),rfl,ah⟩
theorem yj:∀(f:Nat) (l:List Tm) (i:Nat),i≤f→Bu f l i=Bu i l i
 |0,l,i,h=>by have:i=0:=by omega
              subst this;rfl
 |f+1,l,0,_=>by simp[Bu]
 |f+1,l,i+1,h=>by
  simp only[Bu]
  split
  ·rw[yj f _ _ (by omega),yj i _ _ (by omega)]
  ·rfl
theorem Gx (b:Nat) (v:Value) (r:Nat) (last:Int) (l:List Tm) (m:List (Int×Int)) (i:Nat) (x:Int) (hx:x=(i:Int)) (hi:i<l.length) (hl:l.length≤1000000) (hm:kB l m) (hn:vE l):
 Spec Tryz.prog w0 224 [ptr b 0,.int .i64 x] (lM b v r last l m) (fun _:List (Int×Int)=> .tuple #[]) (fun m'=>pure' (kB (Bu i l i) m')*lM b v r last (Bu i l i) m'):=by
 subst hx
 refine Spec.enter Tryz.func224 rfl Tryz.ntmps224 rfl fun G=> ?_
 simp only[aN]
 repeat' (refine ax ?_)
 refine aV (fun k τ=>∃(l':List Tm) (m':List (Int×Int)),k<l'.length∧l'.length=l.length∧kB l' m'∧vE l'∧Bu k l' k=Bu i l i∧τ=⟨[(1,.int .i64 (k:Int)),(0,ptr b 0)],[],lM b v r last l' m'*G⟩) ?_ ?_
 ·exact⟨i,_,⟨l,m,hi,rfl,hm,hn,rfl,rfl⟩,cG,rfl,aq.refl _⟩
 ·rintro k τ ⟨l',m',hk,Eo,xj,AL,hu,rfl⟩
  have XT:=hZ hk
  have SU:=hZ (show(k - 1) / 2<l'.length by omega)
  rcases Nat.eq_zero_or_pos k with h0|h0
  ·subst h0
   repeat' (first|(refine ab ?_;intro K hK)|(refine hK _ ?_;clear hK K)|refine ax ?_|(refine aF ?_ ?_<;>intro hc<;>(try simp only[cS]at hc)<;>(try exact aG))|refine aX ?_|refine az ?_)
   refine aj (.inr rfl) rfl ⟨m',rfl,?_⟩
   rw[←hu]
   exact(aq.vW xj).trans (ah)
  ·have e1:((k:Int) - 1) / 2=(((k - 1) / 2:Nat):Int):=by omega
   repeat' (first|refine ag (id:=2) (.range 16) ?_|(refine ab ?_;intro K hK)|(refine hK _ ?_;clear hK K)|refine ax ?_|(refine aF ?_ ?_<;>intro hc<;>(try simp only[cS]at hc)<;>(try exact aG))|refine aX ?_|refine az ?_|((first|refine' LQ ?zh rfl ?_|refine' bk rfl rfl ?zh ?_);case zh=>intro F';exact NZ rfl rfl (by omega))|rw[e1]|(refine aD (aa iI rfl (wC w0 (cJ l' k) (cJ l' ((k - 1) / 2))) iI) rfl rfl rfl ?_;intro g)|(refine ai (aa iI rfl (pS w0 b v r last l' m' k ((k - 1) / 2) _ _ rfl rfl hk (by omega)) iI) rfl ?_;intro g))
   ·refine aj (.inl rfl) rfl ⟨m',rfl,?_⟩
    have e:Bu k l' k=l':=by
     obtain⟨j,rfl⟩:∃j,k=j+1:=⟨k - 1,by omega⟩
     rw[Bu,if_neg (by simp_all)]
    rw[←hu,e]
    exact(aq.vW xj).trans (ah)
   ·refine⟨(k - 1) / 2,_,by omega,⟨swp l' k ((k - 1) / 2),_,by rw[eT];omega,by rw[eT];exact Eo,xj.swap AL hk (by omega),AL.perm (kN hk (by omega)).symm,?_,rfl⟩,cG,rfl,ah⟩
    rw[←hu]
    obtain⟨j,rfl⟩:∃j,k=j+1:=⟨k - 1,by omega⟩
    rw[Bu,if_pos ⟨by omega,by simpa using hc⟩,yj j _ _ (by omega)]
end
section
open Go.RowKit
attribute [local irreducible] WS LS cD eM cn cv Spec bA aK
variable (w0:World)
theorem Hb (b:Nat) (v:Value) (r:Nat) (last:Int) (l:List Tm) (m:List (Int×Int)) (i N:Nat) (x:Int) (hx:x=(i:Int)) (hi:i<l.length) (hN:l.length≤N) (hl:l.length≤1000000) (hm:kB l m) (hn:vE l):
 Spec Tryz.prog w0 223 [ptr b 0,.int .i64 x] (lM b v r last l m) (fun _:List (Int×Int)=> .tuple #[]) (fun m'=>pure' (kB (ka N l i) m')*lM b v r last (ka N l i) m'):=by
 subst hx
 refine Spec.enter Tryz.func223 rfl Tryz.ntmps223 rfl fun G=> ?_
 simp only[aN]
 repeat' (refine ax ?_)
 refine aV (fun f τ=>∃(k:Nat) (y:Int) (l':List Tm) (m':List (Int×Int)),y=(k:Int)∧k<l'.length∧l'.length=l.length∧l.length≤f+k∧kB l' m'∧vE l'∧ka f l' k=ka N l i∧τ=⟨[(1,.int .i64 y),(0,ptr b 0)],[],lM b v r last l' m'*G⟩) ?_ ?_
 ·exact⟨N,_,⟨i,_,l,m,rfl,hi,rfl,by omega,hm,hn,rfl,rfl⟩,cG,rfl,aq.refl _⟩
 ·rintro f τ ⟨k,y,l',m',rfl,hk,Eo,hf,xj,AL,hu,rfl⟩
  obtain⟨f,rfl⟩:∃j,f=j+1:=⟨f - 1,by omega⟩
  have stop:fY l' k=k→aq (lM b v r last l' m'*G) (pure' (kB (ka N l i) m')*lM b v r last (ka N l i) m'*G):=fun e=>by
   rw[←hu,ka,if_pos e]
   exact(aq.vW xj).trans (ah)
  have next:∀k',fY l' k=k'→k'≠k→k'<l'.length→k<k'→∃m1,m1<f+1∧∃(k2:Nat) (l2:List Tm) (m2:List (Int×Int)),k2=k'∧l2=swp l' k k'∧m2=(bY (bY m' (cJ (swp l' k k') k).id (k:Int)) (cJ (swp l' k k') k').id (k':Int))∧k2<l2.length∧l2.length=l.length∧l.length≤m1+k2∧kB l2 m2∧vE l2∧ka m1 l2 k2=ka N l i:=fun k' e h1 h2 h3=>by
   refine⟨f,by omega,k',_,_,rfl,rfl,rfl,by rw[eT];omega,by rw[eT];exact Eo,by omega,xj.swap AL hk h2,AL.perm (kN hk h2).symm,?_⟩
   rw[←hu,ka,if_neg (by rw[e];exact h1),e]
  repeat' (first|(refine ab ?_;intro K hK)|(refine hK _ ?_;clear hK K)|refine ax ?_|refine az ?_)
  refine th 3 ?_
  repeat' (first|refine ag (id:=4) (.range 15) ?_|(refine ab ?_;intro K hK)|(refine hK _ ?_;clear hK K)|refine ax ?_|(refine aF ?_ ?_<;>intro hc<;>(try simp only[cS]at hc)<;>(try exact aG))|refine aX ?_|((first|refine' LQ ?zh rfl ?_|refine' bk rfl rfl ?zh ?_);case zh=>intro F';first|exact bC rfl|exact kC rfl|exact db rfl|exact bq rfl iI rfl|exact cm rfl iI iI rfl|exact wj rfl rfl (by omega)|exact BE rfl iI rfl|exact BD rfl iI rfl|exact vH rfl rfl iI iI iI iI (by first|assumption|omega|(simp[al]<;>omega))|exact I1 rfl iI iI|exact I2 rfl rfl (by omega))|((first|refine dn rfl rfl iI rfl ?_ ?_|refine dm rfl rfl iI rfl ?_ ?_|refine dU rfl rfl iI rfl ?_ ?_)<;>intro hc)|(refine bk rfl rfl (fun F'=>ja rfl iI iI iI (hZ (by omega))) ?_)|(refine aD (aa iI rfl (wC w0 _ _) iI) rfl rfl rfl ?_;intro g)|(refine ai (aa iI rfl (pS w0 b v r last l' m' k (2*k+1) _ _ rfl (by omega) hk (by omega)) iI) rfl ?_;intro g)|(refine ai (aa iI rfl (pS w0 b v r last l' m' k (2*k+2) _ _ rfl (by omega) hk (by omega)) iI) rfl ?_;intro g))
  all_goals first
   |exact aj (.inl rfl) rfl ⟨m',rfl,aq.trans (ah) (stop (by clear next stop hu xj AL hm hn;(simp only[fY];repeat' split)<;>(first|omega|(simp_all;done)|(simp_all;omega))))⟩
   |(obtain⟨m1,h1,k2,l2,m2,rfl,rfl,rfl,h2,h3,h4,h5,h6,h7⟩:=next (2*k+1) (by clear next stop hu xj AL hm hn;(simp only[fY];repeat' split)<;>(first|omega|(simp_all;done)|(simp_all;omega))) (by omega) (by omega) (by omega)
     exact⟨m1,_,h1,⟨_,_,_,_,by omega,h2,h3,h4,h5,h6,h7,rfl⟩,⟨rfl,rfl,.intro⟩,rfl,ah⟩)
   |(obtain⟨m1,h1,k2,l2,m2,rfl,rfl,rfl,h2,h3,h4,h5,h6,h7⟩:=next (2*k+2) (by clear next stop hu xj AL hm hn;(simp only[fY];repeat' split)<;>(first|omega|(simp_all;done)|(simp_all;omega))) (by omega) (by omega) (by omega)
     exact⟨m1,_,h1,⟨_,_,_,_,by omega,h2,h3,h4,h5,h6,h7,rfl⟩,⟨rfl,rfl,.intro⟩,rfl,ah⟩)
end
end Go.Proofs.YtapoehkdnglahabGreat

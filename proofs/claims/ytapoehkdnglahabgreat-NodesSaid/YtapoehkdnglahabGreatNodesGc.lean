/- A part of what Nodes needs. -/
import Derived.Test.YtapoehkdnglahabGreatNodesGb
set_option linter.unusedVariables false
set_option linter.unusedSimpArgs false
set_option linter.unusedSectionVars false
namespace Go.Proofs.YtapoehkdnglahabGreat
section
open Go.RowKit
variable {P:Program} {n:fT} {w0:World} {E:Env} {D:List Deferred} {H F R:af} {ops:Array Oper} {l':List Oper} {Q:Exit→St→Prop} {w:World}
def rows {α:Type} (e:TypeId) (size:Nat) (f:α→List Value) (v:Value) (l:List α):af:=Gs e size v l.length (l.flatMap f)
class cY {α:Type} (f:α→List Value) (size:Nat):Prop where
 eq:∀x,(f x).length=size
class dD (H:af) (v:Value) (α:outParam Type) (e:outParam TypeId) (size:outParam Nat) (f:outParam (α→List Value)) (l:outParam (List α)) (F:outParam af):Prop where
 eq:H=rows e size f v l*F
instance NG {α:Type} (e:TypeId) (size:Nat) (f:α→List Value) (v:Value) (l:List α) (F:af):dD (rows e size f v l*F) v α e size f l F:=⟨rfl⟩
instance (priority:=low) NJ {α:Type} (X H F:af) (e:TypeId) (size:Nat) (f:α→List Value) (v:Value) (l:List α) [h:dD H v α e size f l F]:dD (X*H) v α e size f l (X*F):=⟨by rw[h.eq,aM]⟩
instance (priority:=low) NI {α:Type} (X H F:af) (e:TypeId) (size:Nat) (f:α→List Value) (v:Value) (l:List α) [h:dD X v α e size f l F]:dD (X*H) v α e size f l (F*H):=⟨by rw[h.eq,ad]⟩
class GL (P:Program) (t:TypeId) (size:outParam Nat):Prop where
 eq:(P.info? t).map (·.size)=some size
instance Sm (t:TypeId) [h:fi P t]:GL P t 1:=⟨h.size⟩
instance Sl (t:TypeId) (s:Nat) [h:mN P t s]:GL P t s:=⟨h.size⟩
class lj (P:Program) (t:TypeId) (e:outParam TypeId) (size bytes:outParam Nat):Prop where
 out:yt P t e size bytes
class fB (i:Int) (k:outParam Nat):Prop where
 eq:i=(k:Int)
instance N5 (k:Nat):fB ((k:Nat):Int) k:=⟨rfl⟩
instance N7:fB 0 0:=⟨rfl⟩
instance:fB 2 2:=⟨rfl⟩
instance:fB 3 3:=⟨rfl⟩
instance:fB 4 4:=⟨rfl⟩
instance:fB 5 5:=⟨rfl⟩
instance:fB 8 8:=⟨rfl⟩
instance:fB 12 12:=⟨rfl⟩
instance:fB 13 13:=⟨rfl⟩
instance:fB 16 16:=⟨rfl⟩
instance PT:fB 1 1:=⟨rfl⟩
instance PR (i j:Int) (k m:Nat) [a:fB i k] [b:fB j m]:fB (i+j) (k+m):=⟨by rw[a.eq,b.eq];simp⟩
def pX (v:Value) (size k j:Nat):Value:=match v with
 | .slice (some a) _ _=> .pointer (some (a.add (k*size+j)))
 |_=>undef
theorem bZ {α:Type} (f:α→List Value) (size:Nat) (hf:∀x,(f x).length=size) (l:List α):(l.flatMap f).length=l.length*size:=by
 induction l with
 |nil=>simp
 |cons x l ih=>simp[ih,hf,Nat.succ_mul];omega
theorem nN {α:Type} (f:α→List Value) (size:Nat) (hf:∀x,(f x).length=size):∀(l:List α) (k j:Nat) (x:α),l[k]? =some x→j<size→(l.flatMap f)[k*size+j]? =(f x)[j]?
 |[],k,j,x,h,_=>by simp at h
 |y::l,0,j,x,h,hj=>by
  simp at h;subst h
  simp only[List.flatMap_cons,Nat.zero_mul,Nat.zero_add]
  rw[List.getElem?_append_left (by rw[hf];exact hj)]
 |y::l,k+1,j,x,h,hj=>by
  have:=nN f size hf l k j x (by simpa using h) hj
  simp only[List.flatMap_cons]
  rw[List.getElem?_append_right (by rw[hf,Nat.succ_mul];omega),hf,←this]
  congr 1
  rw[Nat.succ_mul];omega
theorem mh {α:Type} (f:α→List Value) (size:Nat) (hf:∀x,(f x).length=size):∀(l:List α) (k:Nat) (y:α),k<l.length→(l.set k y).flatMap f=(l.flatMap f).take (k*size)++f y++(l.flatMap f).drop (k*size+size)
 |[],k,y,h=>by simp at h
 |x::l,0,y,h=>by
  have hx:=hf x
  have e:((f x++l.flatMap f).drop (0*size+size))=l.flatMap f:=by rw[Nat.zero_mul,Nat.zero_add,←hx,List.drop_left]
  simp only[List.set_cons_zero,List.flatMap_cons]
  rw[e];simp
 |x::l,k+1,y,h=>by
  have ih:=mh f size hf l k y (by simpa using h)
  have hx:=hf x
  have e1:(f x++l.flatMap f).take ((k+1)*size)=f x++(l.flatMap f).take (k*size):=by
   rw[show(k+1)*size=(f x).length+k*size by rw[hx,Nat.succ_mul];omega,List.take_length_add_append]
  have e2:(f x++l.flatMap f).drop ((k+1)*size+size)=(l.flatMap f).drop (k*size+size):=by
   rw[show(k+1)*size+size=(f x).length+(k*size+size) by rw[hx,Nat.succ_mul];omega,List.drop_length_add_append]
  simp only[List.set_cons_succ,List.flatMap_cons,ih]
  rw[e1,e2]
  simp
theorem pP {α:Type} {e:TypeId} {size:Nat} {f:α→List Value} {v:Value} {l:List α} [hf:cY f size] (hp:0<size) (h:Sat w0 w (rows e size f v l*F)) {k:Nat} (hk:k<l.length):
 ∃g off cap,v= .slice (some ⟨g,off,none⟩) l.length cap∧(∀j u,j<size→(f l[k])[j]? =some u→w.cell? ⟨g,off+(k*size+j),none⟩=some u):=by
 have mi:l.flatMap f≠[]:=by
  intro e0
  have:=bZ f size hf.eq l
  rw[e0]at this
  have:=Nat.mul_pos (Nat.lt_of_le_of_lt (Nat.zero_le _) hk) hp
  simp at*;omega
 obtain⟨g,off,cap,hv,_,_,hc⟩:=Sat.Dl h mi
 exact⟨g,off,cap,hv,fun j u hj hu=>(hc _ u (by rw[nN f size hf.eq l k j l[k] (by simp) hj];exact hu)).1⟩
theorem gz {α:Type} {e:TypeId} {size:Nat} {f:α→List Value} {v:Value} {l:List α} (h:Sat w0 w (rows e size f v l*F)):∃A c,v= .slice A l.length c:=Sat.K1 h
structure ix (w:World) (size:Nat) {α:Type} (f:α→List Value) (v:Value) (l:List α):Prop where
 form:∃A c,v= .slice A l.length c∧l.length≤c∧c≤maxLen
 cell:∀k (hk:k<l.length),∃g off cap,v= .slice (some ⟨g,off,none⟩) l.length cap∧∀j u,j<size→(f l[k])[j]? =some u→w.cell? ⟨g,off+(k*size+j),none⟩=some u
class eX (w0:World) (H:af) (v:Value) (α:outParam Type) (size:outParam Nat) (f:outParam (α→List Value)) (l:outParam (List α)):Prop where
 at_:∀w,Sat w0 w H→ix w size f v l
theorem Gk {α:Type} {e:TypeId} {size:Nat} {f:α→List Value} {v:Value} {l:List α} [hf:cY f size] (hp:0<size) (h:Sat w0 w (rows e size f v l*F)):ix w size f v l:=by
 refine⟨?_,fun k hk=>pP hp h hk⟩
 obtain⟨_,⟨A,rfl,h0,_⟩|⟨g,off,cap,_,_,rfl,h1,h2,_⟩⟩:=Sat.jN h
 ·exact⟨A,0,by rw[h0],by omega,by simp[maxLen]⟩
 ·exact⟨_,_,rfl,h1,h2⟩
instance Se {α:Type} (e:TypeId) (size:Nat) (f:α→List Value) (v:Value) (l:List α) (F:af) [hf:cY f size] [hp:NeZero size]:eX w0 (rows e size f v l*F) v α size f l:=⟨fun w h=>Gk (Nat.pos_of_ne_zero hp.out) h⟩
instance (priority:=low) Sf {α:Type} (X H:af) (size:Nat) (f:α→List Value) (v:Value) (l:List α) [h:eX w0 H v α size f l]:eX w0 (X*H) v α size f l:=⟨fun w hs=>h.at_ w hs.drop⟩
instance (priority:=low) Sd {α:Type} (X H:af) (size:Nat) (f:α→List Value) (v:Value) (l:List α) [h:eX w0 X v α size f l]:eX w0 (X*H) v α size f l:=⟨fun w hs=>h.at_ w hs.Cq⟩
instance fy {α:Type} (e:TypeId) (size:Nat) (f:α→List Value) (v:Value) (l:List α) [hf:cY f size] [hp:NeZero size]:eX w0 (rows e size f v l) v α size f l:=⟨fun w h=>Gk (F:=emp) (Nat.pos_of_ne_zero hp.out) (h.cast bl.symm)⟩
instance:NeZero 1:=⟨by decide⟩
instance:NeZero 2:=⟨by decide⟩
instance:NeZero 3:=⟨by decide⟩
instance:NeZero 6:=⟨by decide⟩
instance:NeZero 7:=⟨by decide⟩
section quiet
variable {α:Type} {e:TypeId} {size:Nat} {f:α→List Value} {v:Value} {l:List α} {d:Option Tmp} {ty:TypeId} {pos:String} {after:Array Edge} {gu:Option (Nat×Bool)} {x y:Operand}
theorem I1 {t e':TypeId} (hx:E.ev x=some v) (hl:eX w0 H v α size f l) (ht:eN P t (.slice e')):cD P n w0 ⟨d,.call ⟨.builtin .len,#[x],#[t]⟩,ty,pos,after,gu⟩ E H (.int .i64 (l.length:Int)):=fun a w s hs=>by
 obtain⟨A,c,rfl,_⟩:=(hl.at_ w hs).form
 exact M4 hx ht a w s hs
theorem vH {t e2:TypeId} {q:IntKind} {i:Int} {k:Nat} (hx:E.ev x=some v) (hy:E.ev y=some (.int q i)) (hl:eX w0 H v α size f l) (ht:eN P t (.slice e2)) (fP:GL P e2 size) (hi:fB i k) (hk:k<l.length):
 cD P n w0 ⟨d,.indexAddr t x y,ty,pos,after,gu⟩ E H (pX v size k 0):=fun a w s hs=>by
 obtain⟨g,off,cap,rfl,_⟩:=(hl.at_ w hs).cell k hk
 obtain⟨i0,uY,zq⟩:=Option.map_eq_some_iff.1 fP.eq
 obtain rfl:=hi.eq
 have FW:P.elem t=e2:=by simp[Program.elem,ht.eq]
 have h:=run_indexAt_slice (P:=P) w t ⟨g,off,none⟩ l.length cap q (k:Int) (by rw[ht.eq,FW])
 rw[if_pos ⟨by omega,by omega⟩,FW]at h
 simp[execOp,s.ev hx,s.ev hy,h,sizeOf,typeInfo,uY,zq,pX]
theorem ui (w:World) {s k o:Nat} {t:TypeId} (a0:Addr) (h:eo P s k o t):(Instr.fieldAt s (.pointer (some a0)) k).run P w= .ok (.pointer (some (a0.add o))) w:=by
 obtain⟨size,h⟩:=h.eq
 unfold AA at h
 split at h
 ·rename_i fs hu
  split at h
  ·rename_i f hf
   split at h
   ·rename_i i hi
    simp only[Option.some.injEq,Prod.mk.injEq]at h
    obtain⟨h1,h2,rZ⟩:=h
    subst h1
    simp[Instr.fieldAt,run_underlying hu,hf,Instr.sureAddr,fieldPlace,sizeOf,typeInfo,hi,rZ]
   ·cases h
  ·cases h
 ·cases h
theorem eG {s k j off r:Nat} {VF:Nat} {t:TypeId} (hx:E.ev x=some (pX v size k j)) (hl:eX w0 H v α size f l) (h:eo P s VF off t) (hr:j+off=r) (hk:k<l.length):cD P n w0 ⟨d,.fieldAddr s x VF,ty,pos,after,gu⟩ E H (pX v size k r):=fun a w se hs=>by
 subst hr
 obtain⟨g,o,cap,rfl,_⟩:=(hl.at_ w hs).cell k hk
 have e1:=ui (P:=P) w ((⟨g,o,none⟩:Addr).add (k*size+j)) h
 rw[add_lit,add_lit]at e1
 simp[execOp,se.ev hx,pX,add_lit,e1,Nat.add_assoc]
theorem lg {t:TypeId} {k j:Nat} {z:α} {u:Value} (hx:E.ev x=some (pX v size k j)) (hl:eX w0 H v α size f l) (ht:fi P t) (hf:cY f size) (hz:l[k]? =some z) (hv:AH (f z) j=some u):cD P n w0 ⟨d,.load t x,ty,pos,after,gu⟩ E H u:=fun a w s hs=>by
 rw[rT]at hv
 have hj:j<size:=by rw[←hf.eq z];exact(List.getElem?_eq_some_iff.1 hv).1
 have hk:k<l.length:=(List.getElem?_eq_some_iff.1 hz).1
 obtain⟨g,off,cap,rfl,hc⟩:=(hl.at_ w hs).cell k hk
 have RH:l[k]=z:=by have:=(List.getElem?_eq_some_iff.1 hz).2;exact this
 have FV:=hc j u hj (by rw[RH];exact hv)
 have hd:=ht.ok
 obtain⟨dd,sX⟩:∃dd,P.underlying t=some dd:=by
  cases hu:P.underlying t with
  |none=>rw[hu]at hd;cases hd
  |some dd=>exact⟨dd,rfl⟩
 rw[sX]at hd
 have tJ:(isAgg t).run P w= .ok false w:=by
  simp only[isAgg,Sem.run_bind,run_underlying sX,Result.andThen_ok]
  cases dd<;>simp_all [sG]
 simp[execOp,s.ev hx,pX,Instr.loadAt,Instr.sureAddr,loadVar,tJ,add_lit,FV]
theorem ja {t:TypeId} {k:Nat} {z:α} (hx:E.ev x=some (pX v size k 0)) (hl:eX w0 H v α size f l) (ht:mN P t size) (hf:cY f size) (hz:l[k]? =some z):cD P n w0 ⟨d,.load t x,ty,pos,after,gu⟩ E H (.agg (f z).toArray):=fun a w s hs=>by
 have hk:k<l.length:=(List.getElem?_eq_some_iff.1 hz).1
 obtain⟨g,off,cap,rfl,hc⟩:=(hl.at_ w hs).cell k hk
 have RH:l[k]=z:=by have:=(List.getElem?_eq_some_iff.1 hz).2;exact this
 have Xt:∀j u,(f z)[j]? =some u→w.cell? ((⟨g,off+k*size,none⟩:Addr).add j)=some u:=fun j u hu=>by
  rw[add_lit]
  have:=hc j u (by rw[←hf.eq z];exact(List.getElem?_eq_some_iff.1 hu).1) (by rw[RH];exact hu)
  rwa[←Nat.add_assoc]at this
 have hd:=ht.ok
 obtain⟨dd,sX⟩:∃dd,P.underlying t=some dd:=by
  cases hu:P.underlying t with
  |none=>rw[hu]at hd;cases hd
  |some dd=>exact⟨dd,rfl⟩
 rw[sX]at hd
 have tJ:(isAgg t).run P w= .ok true w:=by
  simp only[isAgg,Sem.run_bind,run_underlying sX,Result.andThen_ok]
  cases dd<;>simp_all [L3]
 obtain⟨i,hi,uZ⟩:=Option.map_eq_some_iff.1 ht.size
 have Kf:(sizeOf t).run P w= .ok size w:=by simp[sizeOf,typeInfo,hi,uZ]
 have hr:=run_loadCells_list (P:=P) (w:=w) ⟨g,off+k*size,none⟩ (f z) Xt
 rw[hf.eq]at hr
 simp[execOp,s.ev hx,pX,add_lit,Instr.loadAt,Instr.sureAddr,loadVar,tJ,Kf,hr]
end quiet
theorem nq (w:World) {g off cap m size:Nat} {e t:TypeId} {xs vs:List Value} {val:Value} {p:Nat} (hs:Sat w0 w (Gs e size (.slice (some ⟨g,off,none⟩) m cap) m xs*F)) (rZ:(P.info? t).map (·.size)=some vs.length) (hv:val.cells=vs.toArray) (h1:∀u∈vs,u.oneCell'=true) (hp:p+vs.length≤m*size) (rX:0<m*size):
 ∃w',(storeVar t ⟨g,off+p,none⟩ val).run P w= .ok () w'∧Sat w0 w' (Gs e size (.slice (some ⟨g,off,none⟩) m cap) m (xs.take p++vs++xs.drop (p+vs.length))*F):=by
 obtain⟨hl,⟨A,ZR,h0,_⟩|⟨g',Pw,Oe,cur,fr,ZR,hn,hm,hc,ht,hf,eI⟩⟩:=hs.jN
 ·subst h0;simp at rX
 ·injection ZR with e1 _ e3
  injection e1 with e1
  injection e1 with e1 e2
  subst e1;subst e2;subst e3
  have hle:m*size≤cap*size:=Nat.mul_le_mul_right _ hn
  obtain⟨i,hi,uZ⟩:=Option.map_eq_some_iff.1 rZ
  have hz:(sizeOf t).run P w= .ok vs.length w:=by simp[sizeOf,typeInfo,hi,uZ]
  have hr:=ig (P:=P) g (off+p) e fr vs 0 cur w eI.at_ (by omega) h1 (fun i h1 h2=>hf i (by omega) (by omega))
  refine⟨w.setRow g (cur.toList.take (off+p+0)++vs++cur.toList.drop (off+p+0+vs.length)).toArray,?_,?_⟩
  ·simp only[storeVar,Sem.run_bind,hz,Result.andThen_ok,hv,List.size_toArray]
   rw[if_neg (by simp)]
   exact hr
  ·have ma:Sat w0 (w.setRow g (cur.toList.take (off+p+0)++vs++cur.toList.drop (off+p+0+vs.length)).toArray) (pM g (.cells (cur.toList.take (off+p+0)++vs++cur.toList.drop (off+p+0+vs.length)).toArray e fr)*F):=
    Sat.put eI rfl rfl rfl (setRow_heap w g cur _ e fr eI.at_) fun k _ hk=>setRow_other w g k _ hk
   refine Sat.yc e size m g off cap _ fr _ ma ?_ hn hm ?_ ?_ hf
   ·simp only[List.length_append,List.length_take,List.length_drop,hl];omega
   ·simp only[List.size_toArray,List.length_append,List.length_take,List.length_drop,Array.length_toList];omega
   ·subst ht
    apply List.ext_getElem?
    intro j
    simp only[Nat.add_zero,List.getElem?_take,List.getElem?_drop,List.getElem?_append,List.length_append,List.length_take,List.length_drop,Array.length_toList]
    have e1:min (off+p) cur.size=off+p:=by omega
    have e2:min p (min (m*size) (cur.size - off))=p:=by omega
    rw[e1,e2]
    by_cases c0:j<m*size
    ·simp only[c0,if_true]
     by_cases c1:j<p
     ·simp[c1,show off+j<off+p+vs.length by omega,show off+j<off+p by omega,show j<p+vs.length by omega]
     ·by_cases c2:j<p+vs.length
      ·simp[c1,c2,show off+j<off+p+vs.length by omega,show off+j - (off+p)=j - p by omega]
      ·simp[c1,c2,show ¬off+j<off+p+vs.length by omega,show ¬off+j<off+p by omega,show off+p+vs.length+(off+j - (off+p+vs.length))=off+j by omega,show p+vs.length+(j - (p+vs.length))=j by omega,c0]
    ·simp only[c0,if_false]
     by_cases c2:j<p+vs.length
     ·omega
     ·simp[c2,show ¬j<p by omega,show ¬p+vs.length+(j - (p+vs.length))<m*size by omega]
theorem K3 {A B C:List Value} {m j:Nat} (hA:A.length=m) (hj:j≤B.length):(A++(B++C)).take (m+j)=A++B.take j:=by
 subst hA
 rw[List.take_length_add_append,List.take_append_of_le_length hj]
theorem JE {A B C:List Value} {m j:Nat} (hA:A.length=m) (hj:j≤B.length):(A++(B++C)).drop (m+j)=B.drop j++C:=by
 subst hA
 rw[List.drop_length_add_append,List.drop_append_of_le_length hj]
section stores
variable {α:Type} {e:TypeId} {size:Nat} {f:α→List Value} {v:Value} {l:List α} {ty:TypeId} {pos:String} {after:Array Edge} {gu:Option (Nat×Bool)} {x y:Operand}
theorem gV (z':α) {t:TypeId} {k:Nat} {vs:List Value} (hx:E.ev x=some (pX v size k 0)) (hy:E.ev y=some (.agg vs.toArray)) (hz:vs=f z') (hl:dD H v α e size f l F) (ht:mN P t size) (hf:cY f size) (hp:Nat.blt 0 size=true) (h1:vs.all (·.oneCell')=true) (hk:k<l.length):
 cn P n w0 ⟨none,.store t x y,ty,pos,after,gu⟩ E H (fun _:Unit=>undef) (fun _=>rows e size f v (l.set k z')*F):=cn.mk' (pre:=rows e size f v l) (post:=fun _=>rows e size f v (l.set k z')) (fun G a w K Q s hs hK=>by
 have qZ:0<size:=by simpa using hp
 obtain⟨g,off,cap,rfl,_⟩:=pP qZ hs hk
 have S5:vs.length=size:=by rw[hz];exact hf.eq z'
 have P6:(k+1)*size≤l.length*size:=Nat.mul_le_mul_right _ hk
 rw[Nat.succ_mul]at P6
 obtain⟨w',hr,eI⟩:=nq (P:=P) (t:=t) (vs:=vs) (val:= .agg vs.toArray) (p:=k*size) w hs (by rw[S5];exact ht.size) rfl (by simpa using h1) (by omega) (by omega)
 have:=hK () w' (eI.cast (by unfold rows;rw[List.length_set,mh f size hf.eq l k z' hk,S5,hz]))
 simp only[Act.put]at this
 simp only[Oper.wp,execOp,s.ev hx,s.ev hy,pX,add_lit,Nat.add_zero,Instr.storeAt,Instr.sureAddr,Sem.run_bind,Sem.run_pure,Result.andThen_ok,hr,Oper.upon_skip]
 exact this) hl.eq
theorem dB (z':α) {t:TypeId} {k j:Nat} {z:α} {u:Value} (hx:E.ev x=some (pX v size k j)) (hy:E.ev y=some u) (hl:dD H v α e size f l F) (ht:fi P t) (hf:cY f size) (h1:u.oneCell'=true) (hz:l[k]? =some z) (pF:iW (f z) j [u]=some (f z')):
 cn P n w0 ⟨none,.store t x y,ty,pos,after,gu⟩ E H (fun _:Unit=>undef) (fun _=>rows e size f v (l.set k z')*F):=cn.mk' (pre:=rows e size f v l) (post:=fun _=>rows e size f v (l.set k z')) (fun G a w K Q s hs hK=>by
 obtain⟨hle,X5⟩:=np pF
 have hj:j<size:=by rw[←hf.eq z];simp at hle;omega
 have hk:k<l.length:=(List.getElem?_eq_some_iff.1 hz).1
 have RH:l[k]=z:=by have:=(List.getElem?_eq_some_iff.1 hz).2;exact this
 obtain⟨g,off,cap,rfl,_⟩:=pP (by omega) hs hk
 have P6:(k+1)*size≤l.length*size:=Nat.mul_le_mul_right _ hk
 rw[Nat.succ_mul]at P6
 obtain⟨w',hr,eI⟩:=nq (P:=P) (t:=t) (vs:=[u]) (val:=u) (p:=k*size+j) w hs ht.size (cells_one h1) (by simpa using h1) (by simp;omega) (by omega)
 have tM:(l.flatMap f).take (k*size+j)++[u]++(l.flatMap f).drop (k*size+j+1)=(l.set k z').flatMap f:=by
  rw[mh f size hf.eq l k z' hk,X5]
  have hlen:=bZ f size hf.eq l
  have Rr:l.set k z=l:=by rw[←RH];exact List.set_getElem_self hk
  have hX:=mh f size hf.eq l k z hk
  rw[Rr]at hX
  have hA:((l.flatMap f).take (k*size)).length=k*size:=by rw[List.length_take,hlen];omega
  have XD:=hf.eq z
  generalize (l.flatMap f).take (k*size)=A at*
  generalize (l.flatMap f).drop (k*size+size)=C at*
  have Xo:l.flatMap f=A++(f z++C):=by rw[hX,List.append_assoc]
  have Rb:j+1≤(f z).length:=by omega
  have e1:=K3 (C:=C) hA (show j≤(f z).length by omega)
  have e2:=JE (C:=C) hA Rb
  rw[Xo,e1,show k*size+j+1=k*size+(j+1) by omega,e2]
  simp
 have:=hK () w' (eI.cast (by
  unfold rows
  rw[List.length_set,←tM]
  simp))
 simp only[Act.put]at this
 simp only[Oper.wp,execOp,s.ev hx,s.ev hy,pX,add_lit,Instr.storeAt,Instr.sureAddr,Sem.run_bind,Sem.run_pure,Result.andThen_ok,hr,Oper.upon_skip]
 exact this) hl.eq
end stores
theorem fJ {H H':af} (e:aq H H') (h:LS P n w0 ops Q l' ⟨E,D,H'⟩):LS P n w0 ops Q l' ⟨E,D,H⟩:=fun a w g=>h a w ⟨g.dQ,g.defers,e.sat g.sat⟩
theorem cV {c:Code} {H H':af} (e:aq H H') (h:WS P n w0 c Q ⟨E,D,H'⟩):WS P n w0 c Q ⟨E,D,H⟩:=fun a w g=>h a w ⟨g.dQ,g.defers,e.sat g.sat⟩
theorem aq.nil {α:Type} (H:af) (e:TypeId) (size:Nat) (f:α→List Value) (A:Option Addr):aq H (rows e size f (.slice A 0 0) []*H):=fun h hh=>
 ⟨h,⟨fun _=>none,h,fun _=> .inl rfl,(Part.join_none fun _=>rfl).symm,⟨by simp,.inl ⟨A,rfl,rfl,fun _=>rfl⟩⟩,hh⟩,fun _ _ e=>e⟩
end
section
open Go.RowKit
variable {P:Program} {n:fT} {w0:World} {E:Env} {D:List Deferred} {H F F2 R:af} {ops:Array Oper} {l':List Oper} {Q:Exit→St→Prop} {w:World}
def Od (size:Nat):List Value→List (Nat×Value)→Option (List Value)
 |cs,[]=>some cs
 |cs,(i,v)::r=>bif Nat.beq (jn v).length size then match iW cs (i*size) (jn v)with
  |some nv=>Od size nv r
  |none=>none
  else none
theorem AB (size:Nat):∀(parts:List (Nat×Value)) (cs r:List Value),Od size cs parts=some r→Instr.fill (fun i=>some (i*size,size)) cs.toArray parts=some r.toArray
 |[],cs,r,h=>by cases h;rfl
 |(i,v)::parts,cs,r,h=>by
  simp only[Od]at h
  cases hs:Nat.beq (jn v).length size with
  |false=>rw[hs]at h;cases h
  |true=>
   rw[hs]at h
   simp only[cond_true]at h
   cases hq:iW cs (i*size) (jn v)with
   |none=>rw[hq]at h;cases h
   |some nv=>
    rw[hq]at h
    simp only at h
    obtain⟨hle,zm⟩:=np hq
    have rZ:v.cells.size=size:=by rw[gX];simpa using Nat.eq_of_beq_eq_true hs
    have JU:((v.cells.zipIdx).foldl (fun cs (c,j)=>cs.setIfInBounds (i*size+j) c) cs.toArray)=nv.toArray:=by
     apply Array.ext'
     have:=foldl_set (jn v) 0 (i*size) cs.toArray (by simpa using hle)
     rw[←Array.foldl_toList]
     simp only[gX]
     simpa [zm]using this
    unfold Instr.fill
    simp only
    rw[if_neg (by
     rw[gX]at rZ ⊢
     simp only[List.size_toArray]at rZ ⊢
     simp[rZ];omega),JU]
    exact AB size parts nv r h
theorem pf (zs:List Value):∀k,(j4 zs k).length=k*zs.length
 |0=>by simp[j4]
 |k+1=>by simp[j4,pf zs k,Nat.succ_mul];omega
theorem yk (zs:List Value):∀(k i:Nat),i<k*zs.length→(j4 zs k)[i]? =zs[i % zs.length]?
 |0,i,h=>by simp at h
 |k+1,i,h=>by
  simp only[j4]
  rw[List.getElem?_append]
  split
  ·rename_i hi;rw[Nat.mod_eq_of_lt hi]
  ·rename_i hi
   have rX:0<zs.length:=by
    rcases Nat.eq_zero_or_pos zs.length with h0|h0
    ·rw[h0]at h;simp at h
    ·exact h0
   rw[yk zs k (i - zs.length) (by rw[Nat.succ_mul]at h;omega)]
   congr 1
   exact(Nat.mod_eq_sub_mod (by omega)).symm
section lit
variable {d:Option Tmp} {ty:TypeId} {pos:String} {after:Array Edge} {gu:Option (Nat×Bool)}
theorem rl {t e:TypeId} {len size:Nat} {parts:List (Nat×Operand)} {vs:List (Nat×Value)} {z:Value} {zs cs:List Value} (ht:eN P t (.slice e)) (hz:Zero P e z zs) (hs:GL P e size) (hl:Nat.beq zs.length size=true) (Ru:Nat.ble (len*size) 16777216=true) (rX:Nat.blt 0 (len*size)=true) (hv:E.kh parts=some vs) (hb:Od size (j4 zs len) vs=some cs):
 cn P n w0 ⟨d,.buildSlice t len parts.toArray,ty,pos,after,gu⟩ E H (fun g=> .slice (some ⟨g,0,none⟩) len len) (fun g=>aK g e cs*H):=Fy fun a w s=>by
 obtain⟨ie,Lp,XL⟩:=Option.map_eq_some_iff.1 hz.eq
 obtain⟨Zm,Q6,Nf⟩:=Option.map_eq_some_iff.1 hs.eq
 rw[Lp]at Q6;cases Q6
 have ON:zs.length=size:=Nat.eq_of_beq_eq_true hl
 have Yc:len*size≤16777216:=Nat.le_of_ble_eq_true Ru
 have Nk:0<len*size:=by simpa using rX
 have e1:=s.kh hv
 have e2:(parts.toArray.map fun(i,x)=>(i,a.eval x)).toList=vs:=by simpa using e1
 have TV:((Array.range (len*size)).map (z.cells[· % z.cells.size]!))=(j4 zs len).toArray:=by
  apply Array.ext'
  apply List.ext_getElem?
  intro i
  have hc:z.cells=zs.toArray:=by rw[gX,hz.cells]
  rw[hc]
  by_cases hi:i<len*size
  ·rw[List.toList_toArray,yk zs len i (by rw[ON];exact hi)]
   have hm:i % zs.length<zs.length:=Nat.mod_lt _ (by
    rcases Nat.eq_zero_or_pos zs.length with h0|h0
    ·rw[ON]at h0;rw[h0]at Nk;simp at Nk
    ·exact h0)
   simp[hi,hm]
  ·rw[List.getElem?_eq_none (by simpa using hi),List.getElem?_eq_none (by rw[List.toList_toArray,pf,ON];omega)]
 have h:=run_buildSlice (P:=P) w t e len (parts.toArray.map fun(i,x)=>(i,a.eval x)) cs.toArray ie z ht.eq Lp XL (by rw[Nf];omega) (by rw[Nf];omega) (by
  rw[Nf,e2,TV];exact AB size vs _ _ hb)
 simp only[execOp,Sem.run_bind,h,Result.andThen_ok,Sem.run_pure]
theorem yq {t e:TypeId} {size:Nat} (ht:eN P t (.slice e)) (hs:GL P e size):
 cn P n w0 ⟨d,.buildSlice t 0 #[],ty,pos,after,gu⟩ E H (fun g=> .slice (some ⟨g,0,none⟩) 0 0) (fun g=>aK g e []*H):=Fy fun a w s=>by
 obtain⟨ie,Lp,Nf⟩:=Option.map_eq_some_iff.1 hs.eq
 simp[execOp,Instr.buildSlice,run_underlying ht.eq,sizeOf,typeInfo,Lp,newRow,Instr.fill]
 exact congrArg (fun c=>w.alloc (Obj.cells c e)) (by apply Array.ext';simp)
end lit
theorem aq.Dc {α:Type} (l:List α) {g:Nat} {e:TypeId} {size m:Nat} {f:α→List Value} {cs:List Value} [hf:cY f size] (hc:cs=l.flatMap f) (hm:l.length=m) (Hk:m≤1000000):aq (aK g e cs*F) (rows e size f (.slice (some ⟨g,0,none⟩) m m) l*F):=fun h hh=>by
 refine⟨h,?_,fun _ _ e=>e⟩
 obtain⟨a,b,hd,he,hp,hq⟩:=hh
 refine⟨a,b,hd,he,⟨by rw[bZ f size hf.eq],.inr ⟨g,0,m,cs.toArray,(0,0),?_,by omega,by simp only[maxLen];omega,?_,?_,fun i _ _=>by simp,hp⟩⟩,hq⟩
 ·rw[hm]
 ·simp[hc,bZ f size hf.eq,hm]
 ·simp only[List.drop_zero]
  rw[hc,←bZ f size hf.eq,List.take_length]
section append
variable {α:Type} {e:TypeId} {size bytes:Nat} {f:α→List Value} {v u:Value} {l:List α} {d:Option Tmp} {ty:TypeId} {pos:String} {after:Array Edge} {gu:Option (Nat×Bool)} {x y:Operand} {t t2:TypeId}
theorem rr (ys:List α) (X:af) (hx:E.ev x=some v) (hy:E.ev y=some u) (hT:yt P t e size bytes) (h2:P.underlying t2=some (.slice e)∨P.underlying t2=some .string) (hf:cY f size) (h1:∀z,∀c∈f z,c.oneCell'=true)
 (O3:∀w G,Sat w0 w (rows e size f v l*(X*G))→Src P w size ys.length u (ys.flatMap f)) (hn:l.length+ys.length≤1000000) (uX:bytes≤1000):
 eM P n w0 ⟨d,.call ⟨.builtin .append,#[x,y],#[t,t2]⟩,ty,pos,after,gu⟩ E (rows e size f v l*X) (fun v':Value=>v') (fun v'=>rows e size f v' (l++ys)*X):=fun G a w K Q s hs hK=>by
 rw[ad]at hs
 refine sV hT h2 x y rfl hs (s.ev hx) (s.ev hy) (O3 w G hs) (fun c hc=> ?_) (by simp only[maxLen];omega) ?_ fun v' w' eI=>hK v' w' ?_
 ·obtain⟨z,_,hz⟩:=List.mem_flatMap.1 hc;exact h1 z c hz
 ·have:(l.length+ys.length)*bytes≤1000000*1000:=Nat.mul_le_mul hn uX
  omega
 ·rw[ad]
  unfold rows
  rw[List.length_append,List.flatMap_append]
  exact eI
theorem uN {w:World} {α:Type} {size:Nat} {f:α→List Value} {u:Value} {ys:List α} (h:ix w size f u ys) (hf:∀x,(f x).length=size):Src P w size ys.length u (ys.flatMap f):=by
 obtain⟨A,c,rfl,_⟩:=h.form
 by_cases hy:ys=[]
 ·subst hy;exact Src.nothing size c A
 ·obtain⟨g,off,cap,mj,_⟩:=h.cell 0 (List.length_pos_iff.2 hy)
  injection mj with e1 e2 e3
  subst e1
  refine Src.slice size ys.length c _ _ (bZ f size hf ys) fun j u hu=> ?_
  rw[add_lit]
  have hj:=(List.getElem?_eq_some_iff.1 hu).1
  rw[bZ f size hf]at hj
  have rX:0<size:=by
   rcases Nat.eq_zero_or_pos size with h0|h0
   ·rw[h0]at hj;simp at hj
   ·exact h0
  have hk:j / size<ys.length:=Nat.div_lt_of_lt_mul (by rw[Nat.mul_comm];exact hj)
  obtain⟨g',Pw,Oe,ID,hc⟩:=h.cell (j / size) hk
  injection ID with e1
  injection e1 with e1
  injection e1 with e1 e2
  subst e1;subst e2
  have V2:j / size*size+j % size=j:=Nat.div_add_mod' j size
  have:=hc (j % size) u (Nat.mod_lt _ rX) (by
   rw[←nN f size hf ys (j / size) (j % size) ys[j / size] (by simp) (Nat.mod_lt _ rX),V2];exact hu)
  rwa[V2]at this
theorem GF {ys:List α} (X:af) {f':α→List Value} (hx:E.ev x=some v) (hy:E.ev y=some u) (hl:dD H v α e size f l F) (hX:eX w0 X u α size f' ys) (hF:F=X*F2) (Hj:f'=f) (hT:lj P t e size bytes) (hf:cY f size) (h1:∀z,∀c∈f z,c.oneCell'=true) (hn:l.length+ys.length≤1000000) (uX:Nat.ble bytes 1000=true):
 cn P n w0 ⟨d,.call ⟨.builtin .append,#[x,y],#[t,t]⟩,ty,pos,after,gu⟩ E H (fun v':Value=>v') (fun v'=>rows e size f v' (l++ys)*(X*F2)):=by
 subst Hj
 refine⟨rows e size f' v l*X,fun v'=>rows e size f' v' (l++ys)*X,F2,?_,by rw[hl.eq,hF,ad],fun _=>by rw[ad]⟩
 exact rr ys X hx hy hT.out (.inl hT.out.ht) hf h1 (fun w G hs=>uN (hX.at_ w hs.p2.Cq) hf.eq) hn (Nat.le_of_ble_eq_true uX)
theorem aR {ys:List α} (hx:E.ev x=some v) (hy:E.ev y=some u) (hl:dD H v α e size f l F) {f':α→List Value} (yz:dD F u α e size f' ys F2) (Hj:f'=f) (hT:lj P t e size bytes) (hf:cY f size) (h1:∀z,∀c∈f z,c.oneCell'=true) (hn:l.length+ys.length≤1000000) (uX:Nat.ble bytes 1000=true):
 cn P n w0 ⟨d,.call ⟨.builtin .append,#[x,y],#[t,t]⟩,ty,pos,after,gu⟩ E H (fun v':Value=>v') (fun v'=>rows e size f v' (l++ys)*(rows e size f u ys*F2)):=by
 subst Hj
 refine⟨rows e size f' v l*rows e size f' u ys,fun v'=>rows e size f' v' (l++ys)*rows e size f' u ys,F2,?_,by rw[hl.eq,yz.eq,ad],fun _=>by rw[ad]⟩
 exact rr ys _ hx hy hT.out (.inl hT.out.ht) hf h1 (fun w G hs=>Src.own hs.p2) hn (Nat.le_of_ble_eq_true uX)
end append
def bU (b:UInt8):List Value:=[u8 b]
instance:cY bU 1:=⟨fun _=>rfl⟩
theorem mS:∀z,∀c∈bU z,c.oneCell'=true:=by intro z c hc;simp[bU]at hc;subst hc;rfl
theorem qy (l:List UInt8):l.flatMap bU=K8 l:=by
 induction l with
 |nil=>rfl
 |cons b l ih=>rw[List.flatMap_cons,ih];rfl
section bytes
variable {v u:Value} {l:List UInt8} {d:Option Tmp} {ty:TypeId} {pos:String} {after:Array Edge} {gu:Option (Nat×Bool)} {x y:Operand} {t t2 e src dst:TypeId} {f:UInt8→List Value} {size:Nat}
theorem GD {ys:List UInt8} {bytes:Nat} (hx:E.ev x=some v) (hy:E.ev y=some (aZ ys)) (hl:dD H v UInt8 e 1 f l F) (Oz:f=bU) (hT:lj P t e 1 bytes) (h2:eN P t2 .string) (hn:l.length+ys.length≤1000000) (uX:Nat.ble bytes 1000=true):
 cn P n w0 ⟨d,.call ⟨.builtin .append,#[x,y],#[t,t2]⟩,ty,pos,after,gu⟩ E H (fun v':Value=>v') (fun v'=>rows e 1 f v' (l++ys)*F):=by
 subst Oz
 refine⟨rows e 1 bU v l*emp,fun v'=>rows e 1 bU v' (l++ys)*emp,F,?_,by rw[hl.eq,bl],fun _=>by dsimp only;rw[bl]⟩
 refine rr ys emp hx hy hT.out (.inr h2.eq) iI mS (fun w G hs=> ?_) hn (Nat.le_of_ble_eq_true uX)
 have:=Src.string (P:=P) (w:=w) ⟨ys.toArray⟩
 rw[qy]
 exact this
theorem D1 {w:World} (A:Option Addr) (cap:Nat) (g off:Nat) (xs:List UInt8) (hs:eN P src (.slice e)) (he:eN P e (.int .u8)) (hd:eN P dst .string) (hA:xs≠[]→A=some ⟨g,off,none⟩) (hc:∀j u,(K8 xs)[j]? =some u→w.cell? ⟨g,off+j,none⟩=some u):
 (convert src dst (.slice A xs.length cap)).run P w= .ok (aZ xs) w:=by
 have key:(loadCells ⟨g,off,none⟩ xs.length).run P w= .ok (K8 xs).toArray w:=by
  have:=run_loadCells_list (P:=P) (w:=w) ⟨g,off,none⟩ (K8 xs) (fun j v hj=>by rw[add_lit];exact hc j v hj)
  rwa[qU]at this
 by_cases hx:xs=[]
 ·subst hx
  show(convert src dst (.slice A 0 cap)).run P w=_
  rw[run_convert_bytes_string w src dst e A 0 cap hs.eq he.eq hd.eq]
  cases A with
  |none=>simp[Conv.bytesToString];rfl
  |some a=>simp[Conv.bytesToString,loadCells,loadCellsFrom];rfl
 ·rw[hA hx,run_convert_bytes_string w src dst e _ _ cap hs.eq he.eq hd.eq,run_bytesToString w _ xs.length cap (xs.map fun b=>(b.toNat:Int)) (by rw[key];simp[K8,u8,Function.comp_def]),foldl_push_byteCells]
  have he:(⟨ByteArray.empty.data++xs.toArray⟩:ByteArray)=⟨xs.toArray⟩:=by apply ByteArray.ext;simp
  rw[he]
theorem ix.bytes {w:World} {v:Value} {l:List UInt8} (h:ix w 1 bU v l):∃A c g off,v= .slice A l.length c∧(l≠[]→A=some ⟨g,off,none⟩)∧∀j u,(K8 l)[j]? =some u→w.cell? ⟨g,off+j,none⟩=some u:=by
 obtain⟨A,c,hv,_⟩:=h.form
 by_cases hl:l=[]
 ·exact⟨A,c,0,0,hv,fun h=>absurd hl h,by subst hl;simp[K8]⟩
 ·obtain⟨g,off,cap,mj,_⟩:=h.cell 0 (List.length_pos_iff.2 hl)
  refine⟨A,c,g,off,hv,fun _=>by rw[hv]at mj;injection mj,fun j u hu=> ?_⟩
  have hj:j<l.length:=by have:=(List.getElem?_eq_some_iff.1 hu).1;rwa[qU]at this
  obtain⟨g',Pw,Oe,ID,hc⟩:=h.cell j hj
  rw[mj]at ID
  injection ID with e1
  injection e1 with e1
  injection e1 with e1 e2
  subst e1;subst e2
  have:=hc 0 u (by omega) (by simp[bU];simpa [K8,hj]using hu)
  simpa using this
theorem kY (hx:E.ev x=some v) (hl:eX w0 H v UInt8 1 f l) (Oz:f=bU) (hs:eN P src (.slice e)) (he:eN P e (.int .u8)) (hd:eN P dst .string):cD P n w0 ⟨d,.convert src dst x,ty,pos,after,gu⟩ E H (aZ l):=fun a w s eI=>by
 subst Oz
 obtain⟨A,c,g,off,rfl,hA,hc⟩:=(hl.at_ w eI).bytes
 have hr:(convert src dst (.slice A l.length c)).run P w= .ok (aZ l) w:=D1 A c g off l hs he hd hA hc
 simp only[execOp,s.ev hx,Sem.run_bind,hr,Result.andThen_ok,Sem.run_pure]
theorem Fx {e':TypeId} (hx:E.ev x=some v) (hl:dD H v UInt8 e' 1 f l F) (Oz:f=bU) (hs:eN P src (.slice e)) (he:eN P e (.int .u8)) (hd:eN P dst .string):cn P n w0 ⟨d,.convert src dst x,ty,pos,after,gu⟩ E H (fun _:Unit=>aZ l) (fun _=>rows e' 1 f v l*F):=by
 refine cn.mk' (pre:=rows e' 1 f v l) (post:=fun _=>rows e' 1 f v l) (fun G a w K Q s eI hK=> ?_) hl.eq
 subst Oz
 have h:=kY (P:=P) (n:=n) (w0:=w0) (E:=E) (H:=rows e' 1 bU v l*G) (d:=d) (ty:=ty) (pos:=pos) (after:=after) (gu:=gu) (src:=src) (dst:=dst) hx iI rfl hs he hd a w s eI
 unfold Oper.wp
 rw[h]
 exact hK () w eI
theorem vB (hx:E.ev x=some (aZ l)) (hs:eN P src .string) (hd:eN P dst (.slice e)) (he:eN P e (.int .u8)) (hn:l.length≤1000000):cn P n w0 ⟨d,.convert src dst x,ty,pos,after,gu⟩ E H (fun v':Value=>v') (fun v'=>rows e 1 bU v' l*H):=by
 refine cn.mk' (pre:=emp) (post:=fun v'=>rows e 1 bU v' l) ?_ aB.symm
 intro G a w K Q s eI hK
 rw[aB]at eI
 have hr:=run_bytes_of_string (P:=P) w src dst e ⟨l.toArray⟩ hs.eq hd.eq he.eq
 have rZ:(⟨l.toArray⟩:ByteArray).size=l.length:=rfl
 have kQ:=grownCap_ge w (⟨l.toArray⟩:ByteArray).size 0 e
 have hle:=grownCap_le_maxLen w (⟨l.toArray⟩:ByteArray).size 0 e (by rw[rZ];simp only[maxLen];omega)
 rw[rZ]at hr kQ hle
 simp only[Oper.wp,execOp,s.ev hx,Sem.run_bind,hr,Result.andThen_ok,Sem.run_pure,Oper.upon_value]
 refine hK _ _ ?_
 have h1:=(eI.drew.alloc (.cells (bytesRow ⟨l.toArray⟩ (grownCap w l.length 0 e)) e ((bytesRow ⟨l.toArray⟩ (grownCap w l.length 0 e)).size,(bytesRow ⟨l.toArray⟩ (grownCap w l.length 0 e)).size+1)))
 have QQ:(bytesRow ⟨l.toArray⟩ (grownCap w l.length 0 e)).size=grownCap w l.length 0 e:=by simp[bytesRow];omega
 refine Sat.yc e 1 l.length w.heap.size 0 _ (bytesRow ⟨l.toArray⟩ (grownCap w l.length 0 e)) _ _ h1 ?_ kQ hle ?_ ?_ ?_
 ·rw[qy,qU];simp
 ·rw[QQ];simp
 ·rw[qy]
  simp[bytesRow,K8,u8,List.take_append_of_le_length]
 ·intro i h1 h2
  rw[QQ]
  simp;omega
theorem kP {a b:List UInt8} (hx:E.ev x=some (aZ a)) (hy:E.ev y=some (aZ b)) (hn:a.length+b.length≤9223372036854775807):cD P n w0 ⟨d,.binOp .add t x y t2,ty,pos,after,gu⟩ E H (aZ (a++b)):=fun ac w s hs=>by
 have rZ:((⟨a.toArray⟩:ByteArray).size+(⟨b.toArray⟩:ByteArray).size:Nat)=a.length+b.length:=rfl
 have Lk:(⟨a.toArray⟩:ByteArray)++⟨b.toArray⟩=⟨(a++b).toArray⟩:=by apply ByteArray.ext;simp
 have hg:¬(((⟨a.toArray⟩:ByteArray).size+(⟨b.toArray⟩:ByteArray).size:Nat):Int)>IntKind.i64.max:=by rw[rZ];simp[IntKind.max,IntKind.signed,IntKind.bits];omega
 simp only[execOp,s.ev hx,s.ev hy,eqGuard,binOp,Op.stringOp]
 rw[if_neg hg,Lk]
 rfl
theorem dC {a:List UInt8} {q:IntKind} {i:Int} {k:Nat} (hx:E.ev x=some (aZ a)) (hy:E.ev y=some (.int q i)) (hi:fB i k) (ht:eN P t .string) (hk:k≤a.length):cD P n w0 ⟨d,.slice t x (some y) none none,ty,pos,after,gu⟩ E H (aZ (a.drop k)):=fun ac w s hs=>by
 obtain rfl:=hi.eq
 have hr:=run_slice_string_l (P:=P) w t ⟨a.toArray⟩ ht.eq q (k:Int) (by omega) (by show(k:Int)≤(a.length:Nat);omega)
 have e1:(⟨a.toArray⟩:ByteArray).extract k (⟨a.toArray⟩:ByteArray).size=⟨(a.drop k).toArray⟩:=by apply ByteArray.ext;simp[ByteArray.size];exact List.take_of_length_le (by simp)
 simp only[execOp,s.ev hx,s.ev hy,Option.map_some,Option.map_none,run_sliceAt_string w t _ _ _ _ ht.eq,Sem.run_bind,hr,Result.andThen_ok,Sem.run_pure,Int.toNat_natCast,e1]
theorem eH {a:List UInt8} {q:IntKind} {i:Int} {k:Nat} {b:UInt8} (hx:E.ev x=some (aZ a)) (hy:E.ev y=some (.int q i)) (hi:fB i k) (ht:eN P t .string) (hb:a[k]? =some b):cD P n w0 ⟨d,.index t x y,ty,pos,after,gu⟩ E H (u8 b):=fun ac w s hs=>by
 obtain rfl:=hi.eq
 have hk:k<a.length:=(List.getElem?_eq_some_iff.1 hb).1
 have hr:=run_index_string (P:=P) w t ⟨a.toArray⟩ q (k:Int) ht.eq
 have QV:(0:Int)≤(k:Int)∧(k:Int)<((⟨a.toArray⟩:ByteArray).size:Nat):=⟨by omega,by show(k:Int)<(a.length:Nat);omega⟩
 rw[dif_pos QV]at hr
 have Xs:(⟨a.toArray⟩:ByteArray)[((k:Int)).toNat]'(by rw[Int.toNat_natCast];exact hk)=b:=by
  rw[←(List.getElem?_eq_some_iff.1 hb).2]
  rfl
 rw[Xs]at hr
 simp only[execOp,s.ev hx,s.ev hy,Sem.run_bind,hr,Result.andThen_ok,Sem.run_pure]
 rfl
theorem oF {t:TypeId} {k:Nat} {b:UInt8} (hx:E.ev x=some (pX v 1 k 0)) (hy:E.ev y=some u) (hb:tc u b) (hl:dD H v UInt8 e 1 f l F) (Oz:f=bU) (ht:fi P t) (hk:k<l.length):
 cn P n w0 ⟨none,.store t x y,ty,pos,after,gu⟩ E H (fun _:Unit=>undef) (fun _=>rows e 1 f v (l.set k b)*F):=by
 subst Oz
 obtain rfl:=hb.eq
 exact dB (z:=l[k]) b hx hy hl ht iI rfl (by simp) rfl
def b8 (m:Int):UInt8:=UInt8.ofNat (m % 256).toNat
theorem Aa {m:Int} {k:IntKind} {ds:TypeDesc} (hx:E.ev x=some (.int k m)) (hs:eN P src ds) (hd:eN P dst (.int .u8)):cD P n w0 ⟨d,.convert src dst x,ty,pos,after,gu⟩ E H (u8 (b8 m)):=
 kX hx hs hd (by
  rw[wrap_u8]
  have h0:=Int.emod_nonneg m (show(256:Int)≠0 by omega)
  have h1:=Int.emod_lt_of_pos m (show(0:Int)<256 by omega)
  simp only[b8,UInt8.toNat_ofNat']
  omega)
theorem fu {b:UInt8} (hx:E.ev x=some (u8 b)) {ds:TypeDesc} (hs:eN P src ds) (hd:eN P dst (.int .i64)):cD P n w0 ⟨d,.convert src dst x,ty,pos,after,gu⟩ E H (.int .i64 (b.toNat:Int)):=
 kX hx hs hd (by have:=b.toNat_lt;exact IntWalk.i64_in _ (by omega))
theorem po {b:UInt8} (hx:E.ev x=some (u8 b)) {ds:TypeDesc} (hs:eN P src ds) (hd:eN P dst (.int .u32)):cD P n w0 ⟨d,.convert src dst x,ty,pos,after,gu⟩ E H (u32 b.toUInt32):=
 kX hx hs hd (by have:=b.toNat_lt;rw[wrap_u32];simp;omega)
theorem I0 {t et:TypeId} {len:Nat} {cs:List Value} {q:IntKind} {i:Int} {k:Nat} {val:Value} (hx:E.ev x=some (.agg cs.toArray)) (hy:E.ev y=some (.int q i)) (hi:fB i k) (ht:eN P t (.array len et)) (hs:fi P et) (hk:k<len) (hv:cs[k]? =some val):cD P n w0 ⟨d,.index t x y,ty,pos,after,gu⟩ E H val:=fun a w s eI=>by
 obtain rfl:=hi.eq
 have hd:=hs.ok
 obtain⟨dd,sX⟩:∃dd,P.underlying et=some dd:=by
  cases hu:P.underlying et with
  |none=>rw[hu]at hd;cases hd
  |some dd=>exact⟨dd,rfl⟩
 rw[sX]at hd
 have tJ:(isAgg et).run P w= .ok false w:=by
  simp only[isAgg,Sem.run_bind,run_underlying sX,Result.andThen_ok]
  cases dd<;>simp_all [sG]
 obtain⟨ie,Lp,Nf⟩:=Option.map_eq_some_iff.1 hs.size
 have vS:(k:Int)<(len:Int):=by omega
 simp[execOp,s.ev hx,s.ev hy,Instr.index,asIntOf,run_underlying ht.eq,vS,hk,Nat.not_le.2 hk,part,tJ,sizeOf,typeInfo,Lp,Nf,hv]
end bytes
instance W1 {t:TypeId} {a b:List UInt8}:dL P .eql t (aZ a) (aZ b) (.bool (decide (a=b))):=⟨fun w=>by
 have:decide (a=b)=((⟨a.toArray⟩:ByteArray).toList==(⟨b.toArray⟩:ByteArray).toList):=by rw[ByteArray.toList_mk,ByteArray.toList_mk,Bool.eq_iff_iff];simp
 rw[this];rfl,fun w _ _=>rfl⟩
instance YC {t:TypeId} {a b:List UInt8}:dL P .neq t (aZ a) (aZ b) (.bool (!decide (a=b))):=⟨fun w=>by
 have:decide (a=b)=((⟨a.toArray⟩:ByteArray).toList==(⟨b.toArray⟩:ByteArray).toList):=by rw[ByteArray.toList_mk,ByteArray.toList_mk,Bool.eq_iff_iff];simp
 rw[this];rfl,fun w _ _=>rfl⟩
end
section
open Go.RowKit
variable {P:Program} {n:fT} {w0:World} {E:Env} {D:List Deferred} {H F F2 R:af} {ops:Array Oper} {l':List Oper} {Q:Exit→St→Prop} {w:World}
section pairs
variable {κ ν:Type} [DecidableEq κ]
def dT:List (κ×ν)→κ→Option Nat
 |[],_=>none
 |p::r,k=>if p.1=k then some 0 else(dT r k).map (·+1)
def bX (m:List (κ×ν)) (k:κ):Option ν:=match dT m k with
 |some i=>(m[i]?).map (·.2)
 |none=>none
def bY (m:List (κ×ν)) (k:κ) (v:ν):List (κ×ν):=match dT m k with
 |some i=>m.set i (k,v)
 |none=>m++[(k,v)]
def gq (m:List (κ×ν)) (k:κ):List (κ×ν):=match dT m k with
 |some i=>m.eraseIdx i
 |none=>m
theorem lU:∀{m:List (κ×ν)} {k:κ} {i:Nat},dT m k=some i→∃v,m[i]? =some (k,v)
 |[],_,_,h=>by cases h
 |p::r,k,i,h=>by
  simp only[dT]at h
  split at h
  ·rename_i e;cases h;exact⟨p.2,by subst e;rfl⟩
  ·cases hr:dT r k with
   |none=>rw[hr]at h;cases h
   |some j=>rw[hr]at h;cases h;obtain⟨v,hv⟩:=lU hr;exact⟨v,by simpa using hv⟩
theorem tT {m:List (κ×ν)} {k:κ} {v:ν} (h:bX m k=some v):∃i,dT m k=some i∧m[i]? =some (k,v):=by
 unfold bX at h
 cases hf:dT m k with
 |none=>rw[hf]at h;cases h
 |some i=>
  rw[hf]at h
  obtain⟨u,hu⟩:=lU hf
  simp only[hu,Option.map_some,Option.some.injEq]at h
  subst h;exact⟨i,rfl,hu⟩
theorem HA {m:List (κ×ν)} {k:κ} (h:bX m k=none):dT m k=none:=by
 unfold bX at h
 cases hf:dT m k with
 |none=>rfl
 |some i=>
  rw[hf]at h
  obtain⟨u,hu⟩:=lU hf
  simp[hu]at h
end pairs
class ou (P:Program) (kt:TypeId) {κ:Type} (fk:κ→Value):Prop where
 check:∀(empty:Bool) (k:κ) (w:World),(Instr.checkKey empty 10000 kt (fk k)).run P w= .ok () w
 same:∀k:κ,Instr.sameBits 10000 (fk k) (fk k)=true
 find:∀[DecidableEq κ] {ν:Type} (fv:ν→Value) (m:List (κ×ν)) (k:κ) (es:List MapEntry) (w:World),es.map (fun e=>(e.key,e.val))=m.map (fun p=>(fk p.1,fv p.2))→
  (Instr.findKey kt (fk k) es).run P w= .ok ((dT m k).bind fun i=>(m[i]?).map fun p=>(i,fv p.2)) w
def mp {κ ν:Type} (fk:κ→Value) (fv:ν→Value) (r:Nat) (m:List (κ×ν)):af:=
 ⟨fun h=>∃(es:Array MapEntry) (clock:Nat),h=(fun k=>if k=r then some (.map es clock)else none)∧es.toList.map (fun e=>(e.key,e.val))=m.map (fun p=>(fk p.1,fv p.2))∧(es.toList.map (·.born)).Nodup∧∀e∈es.toList,e.born<clock⟩
theorem Sat.oV {κ ν:Type} {fk:κ→Value} {fv:ν→Value} {r:Nat} {m:List (κ×ν)} (h:Sat w0 w (mp fk fv r m*F)):
 ∃es clock,w.heap[r]? =some (.map es clock)∧es.toList.map (fun e=>(e.key,e.val))=m.map (fun p=>(fk p.1,fv p.2))∧(es.toList.map (·.born)).Nodup∧(∀e∈es.toList,e.born<clock)∧Sat w0 w (pM r (.map es clock)*F):=by
 obtain⟨x,⟨a,b,hd,he,⟨es,clock,hp,h1,h2,h3⟩,hq⟩,hk⟩:=h.heap
 have hs:Sat w0 w (pM r (.map es clock)*F):=⟨h.os,h.tape,h.output,x,⟨a,b,hd,he,hp,hq⟩,hk⟩
 exact⟨es,clock,hs.at_,h1,h2,h3,hs⟩
theorem Sat.map_mk {κ ν:Type} {fk:κ→Value} {fv:ν→Value} {r:Nat} {m:List (κ×ν)} {es:Array MapEntry} {clock:Nat} (h:Sat w0 w (pM r (.map es clock)*F)) (h1:es.toList.map (fun e=>(e.key,e.val))=m.map (fun p=>(fk p.1,fv p.2))) (h2:(es.toList.map (·.born)).Nodup) (h3:∀e∈es.toList,e.born<clock):
 Sat w0 w (mp fk fv r m*F):=h.mono fun _ ⟨a,b,hd,he,hp,hq⟩=>⟨a,b,hd,he,⟨es,clock,hp,h1,h2,h3⟩,hq⟩
theorem Sat.setObj {r:Nat} {o o':Obj} (h:Sat w0 w (pM r o*F)):Sat w0 {w with heap:=w.heap.setIfInBounds r o'} (pM r o'*F):=by
 have bW:=h.lt
 refine Sat.put h rfl rfl rfl ?_ fun k _ hk=> ?_
 ·simp[bW]
 ·simp[Array.getElem?_setIfInBounds_ne (Ne.symm hk)]
theorem run_getObj_map {r:Nat} {es:Array MapEntry} {clock:Nat} (h:w.heap[r]? =some (.map es clock)):(getObj r).run P w= .ok (.map es clock) w:=by
 simp[getObj,Sem.run,h]
theorem run_setObj_map {r:Nat} {es:Array MapEntry} {clock:Nat} {o:Obj} (h:w.heap[r]? =some (.map es clock)):(setObj r o).run P w= .ok () {w with heap:=w.heap.setIfInBounds r o}:=by
 simp[setObj,Sem.run,h]
class rp (P:Program) (t:TypeId) (kt et:outParam TypeId):Prop where
 eq:P.underlying t=some (.map kt et)
instance (t kt et:TypeId) [h:eN P t (.map kt et)]:rp P t kt et:=⟨h.eq⟩
def tZ {ν:Type} (fv:ν→Value) (z:Value):Option ν→Value
 |some v=>fv v
 |none=>z
class jQ (H:af) (r:Nat) (κ ν:outParam Type) (fk:outParam (κ→Value)) (fv:outParam (ν→Value)) (m:outParam (List (κ×ν))) (F:outParam af):Prop where
 eq:H=mp fk fv r m*F
instance Pn {κ ν:Type} (fk:κ→Value) (fv:ν→Value) (r:Nat) (m:List (κ×ν)) (F:af):jQ (mp fk fv r m*F) r κ ν fk fv m F:=⟨rfl⟩
instance (priority:=low) Pp {κ ν:Type} (X H F:af) (fk:κ→Value) (fv:ν→Value) (r:Nat) (m:List (κ×ν)) [h:jQ H r κ ν fk fv m F]:jQ (X*H) r κ ν fk fv m (X*F):=⟨by rw[h.eq,aM]⟩
instance (priority:=low) Po {κ ν:Type} (X H F:af) (fk:κ→Value) (fv:ν→Value) (r:Nat) (m:List (κ×ν)) [h:jQ X r κ ν fk fv m F]:jQ (X*H) r κ ν fk fv m (F*H):=⟨by rw[h.eq,ad]⟩
class hU {κ:Type} (fk:κ→Value) (v:Value) (k:outParam κ):Prop where
 eq:v=fk k
section mapops
variable {κ ν:Type} [DecidableEq κ] {fk:κ→Value} {fv:ν→Value} {r:Nat} {m:List (κ×ν)} {d:Option Tmp} {ty:TypeId} {pos:String} {after:Array Edge} {gu:Option (Nat×Bool)} {x y z':Operand} {t kt et:TypeId} {k:κ} {v:Value}
theorem ya (w:World) {z:Value} (hm:P.underlying t=some (.map kt et)) (hz:(P.info? et).map (·.zero)=some (some z)) [hk:ou P kt fk] (hs:Sat w0 w (mp fk fv r m*F)) (ok:Bool):
 (Instr.lookup t (.map (some r)) (fk k) ok).run P w= .ok (if ok then .tuple #[tZ fv z (bX m k),.bool (bX m k).isSome]else tZ fv z (bX m k)) w:=by
 obtain⟨es,clock,l5,h1,_,_,_⟩:=hs.oV
 have hf:=hk.find fv m k es.toList w h1
 obtain⟨i,hi,uZ⟩:=Option.map_eq_some_iff.1 hz
 cases hg:bX m k with
 |none=>
  rw[HA hg]at hf
  simp only[Option.bind_none]at hf
  simp[Instr.lookup,run_underlying hm,run_getObj_map l5,hk.check,hf,zeroValue,typeInfo,hi,uZ,tZ]
 |some u=>
  obtain⟨j,hj,hu⟩:=tT hg
  rw[hj]at hf
  simp only[Option.bind_some,hu,Option.map_some]at hf
  simp[Instr.lookup,run_underlying hm,run_getObj_map l5,hk.check,hf,tZ]
theorem wo {z:Value} {zs:List Value} (hx:E.ev x=some (.map (some r))) (hy:E.ev y=some v) (hl:jQ H r κ ν fk fv m F) (u6:hU fk v k) (hm:rp P t kt et) (hz:Zero P et z zs) (hk:ou P kt fk):cD P n w0 ⟨d,.lookup t x y true,ty,pos,after,gu⟩ E H (.tuple #[tZ fv z (bX m k),.bool (bX m k).isSome]):=fun a w s hs=>by
 obtain rfl:=u6.eq
 have:=ya (k:=k) w hm.eq hz.eq (hs.cast hl.eq) true
 simp only[execOp,s.ev hx,s.ev hy,Sem.run_bind,this,Result.andThen_ok,Sem.run_pure,if_true]
theorem wm {z:Value} {zs:List Value} (hx:E.ev x=some (.map (some r))) (hy:E.ev y=some v) (hl:jQ H r κ ν fk fv m F) (u6:hU fk v k) (hm:rp P t kt et) (hz:Zero P et z zs) (hk:ou P kt fk):cD P n w0 ⟨d,.lookup t x y false,ty,pos,after,gu⟩ E H (tZ fv z (bX m k)):=fun a w s hs=>by
 obtain rfl:=u6.eq
 have:=ya (k:=k) w hm.eq hz.eq (hs.cast hl.eq) false
 simp only[execOp,s.ev hx,s.ev hy,Sem.run_bind,this,Result.andThen_ok,Sem.run_pure,Bool.false_eq_true,if_false]
theorem CE {es:Array MapEntry} (h1:es.toList.map (fun e=>(e.key,e.val))=m.map (fun p=>(fk p.1,fv p.2))):es.size=m.length:=by
 have:=congrArg List.length h1;simpa using this
theorem NW (hx:E.ev x=some (.map (some r))) (hl:jQ H r κ ν fk fv m F) (hm:rp P t kt et):cD P n w0 ⟨d,.call ⟨.builtin .len,#[x],#[t]⟩,ty,pos,after,gu⟩ E H (.int .i64 (m.length:Int)):=fun a w s hs=>by
 obtain⟨es,clock,l5,h1,_,_,_⟩:=(hs.cast hl.eq).oV
 have rZ:=CE h1
 simp[execOp,resolve,invoke,builtin,s.ev hx,Builtin.len_,run_underlying hm.eq,run_getObj_map l5,goInt,rZ]
theorem ew (fk:κ→Value) (fv:ν→Value):cn P n w0 ⟨d,.makeMap t none,ty,pos,after,gu⟩ E H (fun r=> .map (some r)) (fun r=>mp fk fv r []*H):=by
 refine cn.mk' (pre:=emp) (post:=fun r=>mp fk fv r []) (fun G a w K Q s hs hK=> ?_) aB.symm
 rw[aB]at hs
 simp[Oper.wp,execOp,Instr.makeMap,Oper.upon]
 exact hK w.heap.size _ (Sat.map_mk (hs.alloc (.map #[] 0)) (by simp) (by simp) (by simp))
theorem fg {α β:Type} (f:α→β):∀(l:List α) (i:Nat),(l.eraseIdx i).map f=(l.map f).eraseIdx i
 |[],i=>by simp
 |x::l,0=>by simp
 |x::l,i+1=>by simp[fg f l i]
theorem sv {es:Array MapEntry} {i:Nat} {f:MapEntry→MapEntry} (hf:∀e,(f e).born=e.born):(es.modify i f).toList.map (·.born)=es.toList.map (·.born):=by
 apply List.ext_getElem?
 intro j
 simp only[List.getElem?_map,Array.getElem?_toList,Array.getElem?_modify]
 by_cases h:i=j
 ·subst h;cases es[i]? <;>simp[hf]
 ·simp[h]
theorem qo (w:World) {u:ν} (hm:P.underlying t=some (.map kt et)) [hk:ou P kt fk] (hs:Sat w0 w (mp fk fv r m*F)):
 ∃w',(Instr.mapUpdate t (.map (some r)) (fk k) (fv u)).run P w= .ok () w'∧Sat w0 w' (mp fk fv r (bY m k u)*F):=by
 obtain⟨es,clock,l5,h1,h2,h3,hp⟩:=hs.oV
 have hf:=hk.find fv m k es.toList w h1
 cases hg:dT m k with
 |none=>
  rw[hg]at hf
  simp only[Option.bind_none]at hf
  refine⟨_,by simp[Instr.mapUpdate,run_underlying hm,run_getObj_map l5,hk.check,hf,run_setObj_map l5];rfl,?_⟩
  refine Sat.map_mk hp.setObj ?_ ?_ ?_
  ·simp[bY,hg,h1]
  ·simp only[Array.toList_push,List.map_append,List.map_cons,List.map_nil]
   refine List.nodup_append.2 ⟨h2,by simp,?_⟩
   intro a ha b hb
   obtain⟨e,he,rfl⟩:=List.mem_map.1 ha
   have:=h3 e he
   simp at hb
   omega
  ·intro e he
   simp only[Array.toList_push,List.mem_append,List.mem_cons,List.not_mem_nil,or_false]at he
   rcases he with he|rfl
   ·exact Nat.lt_succ_of_lt (h3 e he)
   ·exact Nat.lt_succ_self _
 |some i=>
  obtain⟨v0,ZR⟩:=lU hg
  rw[hg]at hf
  simp only[Option.bind_some,ZR,Option.map_some]at hf
  have bW:i<es.size:=by rw[CE h1];exact(List.getElem?_eq_some_iff.1 ZR).1
  have Uh:es[i].key=fk k:=by
   have:=congrArg (·[i]?) h1
   simp[ZR,bW]at this
   exact this.1
  refine⟨_,by simp[Instr.mapUpdate,run_underlying hm,run_getObj_map l5,hk.check,hf,bW,Uh,Instr.keyThatStays,hk.same,run_setObj_map l5];rfl,?_⟩
  refine Sat.map_mk hp.setObj ?_ ?_ ?_
  ·apply List.ext_getElem?
   intro j
   have hj:=congrArg (·[j]?) h1
   simp only[bY,hg,List.getElem?_map,Array.getElem?_toList,Array.getElem?_modify,List.getElem?_set]at hj ⊢
   by_cases OE:i=j
   ·subst OE
    have V7:i<m.length:=(List.getElem?_eq_some_iff.1 ZR).1
    simp[bW,V7]
   ·simp only[OE,if_false];exact hj
  ·exact(sv (es:=es) (i:=i) (f:=fun e=>⟨fk k,fv u,e.born⟩) (fun _=>rfl)).symm▸h2
  ·intro e he
   have:e.born∈(es.modify i fun e=>{e with key:=fk k,val:=fv u}).toList.map (·.born):=List.mem_map.2 ⟨e,he,rfl⟩
   have sY:=sv (es:=es) (i:=i) (f:=fun e=>⟨fk k,fv u,e.born⟩) (fun _=>rfl)
   rw[show((es.modify i fun e=>{e with key:=fk k,val:=fv u}).toList.map (·.born))=es.toList.map (·.born)from sY]at this
   obtain⟨e',Mi,hb⟩:=List.mem_map.1 this
   rw[←hb];exact h3 e' Mi
theorem dt {u:ν} {uv:Value} (hx:E.ev x=some (.map (some r))) (hy:E.ev y=some v) (hz:E.ev z'=some uv) (hl:jQ H r κ ν fk fv m F) (u6:hU fk v k) (UN:hU fv uv u) (hm:rp P t kt et) (hk:ou P kt fk):
 cn P n w0 ⟨none,.mapUpdate t x y z',ty,pos,after,gu⟩ E H (fun _:Unit=>undef) (fun _=>mp fk fv r (bY m k u)*F):=by
 obtain rfl:=u6.eq
 obtain rfl:=UN.eq
 refine cn.mk' (pre:=mp fk fv r m) (post:=fun _=>mp fk fv r (bY m k u)) (fun G a w K Q s hs hK=> ?_) hl.eq
 obtain⟨w',hr,eI⟩:=qo (k:=k) (u:=u) w hm.eq hs
 have:=hK () w' eI
 simp only[Act.put]at this
 simp only[Oper.wp,execOp,s.ev hx,s.ev hy,s.ev hz,Sem.run_bind,hr,Result.andThen_ok,Sem.run_pure,Oper.upon_skip]
 exact this
theorem ky {d:Option Tmp} (hx:E.ev x=some (.map (some r))) (hy:E.ev y=some v) (hl:jQ H r κ ν fk fv m F) (u6:hU fk v k) {t2:TypeId} (hm:rp P t kt et) (hk:ou P kt fk):
 cn P n w0 ⟨d,.call ⟨.builtin .delete,#[x,y],#[t,t2]⟩,ty,pos,after,gu⟩ E H (fun _:Unit=> .tuple #[]) (fun _=>mp fk fv r (gq m k)*F):=by
 obtain rfl:=u6.eq
 refine cn.mk' (pre:=mp fk fv r m) (post:=fun _=>mp fk fv r (gq m k)) (fun G a w K Q s hs hK=> ?_) hl.eq
 obtain⟨es,clock,l5,h1,h2,h3,hp⟩:=hs.oV
 have hf:=hk.find fv m k es.toList w h1
 have key:∃w',(Builtin.delete_ #[t,t2] ty #[.map (some r),fk k]).run P w= .ok (.tuple #[]) w'∧Sat w0 w' (mp fk fv r (gq m k)*G):=by
  cases hg:dT m k with
  |none=>
   rw[hg]at hf
   simp only[Option.bind_none]at hf
   refine⟨_,by simp[Builtin.delete_,run_underlying hm.eq,run_getObj_map l5,hk.check,hf,run_setObj_map l5];rfl,?_⟩
   exact Sat.map_mk hp.setObj (by simpa [gq,hg]using h1) h2 h3
  |some i=>
   obtain⟨v0,ZR⟩:=lU hg
   rw[hg]at hf
   simp only[Option.bind_some,ZR,Option.map_some]at hf
   refine⟨_,by simp[Builtin.delete_,run_underlying hm.eq,run_getObj_map l5,hk.check,hf,run_setObj_map l5];rfl,?_⟩
   have hE:(es.eraseIdxIfInBounds i).toList=es.toList.eraseIdx i:=by simp[Array.eraseIdxIfInBounds];split<;>simp_all [List.eraseIdx_of_length_le]
   refine Sat.map_mk hp.setObj ?_ ?_ ?_
   ·rw[hE,fg,h1,←fg];simp[gq,hg]
   ·rw[hE,fg];exact h2.sublist (List.eraseIdx_sublist _ _)
   ·intro e he;rw[hE]at he;exact h3 e ((List.eraseIdx_sublist _ _).subset he)
 obtain⟨w',hr,eI⟩:=key
 simp only[Oper.wp,execOp,resolve,invoke,builtin,Sem.run_bind,Sem.run_pure,Result.andThen_ok,List.map_toArray,List.map_cons,List.map_nil,s.ev hx,s.ev hy,hr,Oper.upon_value]
 exact hK () w' eI
end mapops
theorem B6 {κ ν:Type} [DecidableEq κ] {fk:κ→Value} {fv:ν→Value} {q q':IntKind} (num:κ→Int) (hn:∀k,fk k= .int q (num k)) (hi:∀a b,num a=num b→a=b) (k:κ):∀(m:List (κ×ν)) (es:List MapEntry) (i:Nat),es.map (fun e=>(e.key,e.val))=m.map (fun p=>(fk p.1,fv p.2))→
 Instr.findNow (.int q') (fk k) es i=some ((dT m k).bind fun j=>(m[j]?).map fun p=>(i+j,fv p.2))
 |[],es,i,h=>by
  have:es=[]:=by simpa using h
  subst this;rfl
 |p::m,[],i,h=>by simp at h
 |p::m,e::es,i,h=>by
  simp only[List.map_cons,List.cons.injEq,Prod.mk.injEq]at h
  obtain⟨⟨h1,h2⟩,h3⟩:=h
  have ih:=B6 (q':=q') num hn hi k m es (i+1) h3
  simp only[Instr.findNow,h1,hn,Instr.sameNow,if_true]
  by_cases he:p.1=k
  ·subst he
   simp[dT,h2]
  ·have mi:(num k==num p.1)=false:=by rw[beq_eq_false_iff_ne];exact fun e=>he (hi _ _ e.symm)
   rw[mi]
   simp only
   rw[←hn,ih]
   simp only[dT,he,if_false]
   cases dT m k with
   |none=>rfl
   |some j=>simp[Nat.add_assoc,Nat.add_comm 1 j]
theorem Cs {κ:Type} {fk:κ→Value} {kt:TypeId} {q:IntKind} (num:κ→Int) (hn:∀k,fk k= .int q (num k)) (hi:∀a b,num a=num b→a=b) (hu:P.underlying kt=some (.int q)):ou P kt fk where
 check:=fun empty k w=>by rw[hn];exact Go.MapKept.run_checkKey hu (show Go.MapKept.IsKey (.int q) (.int q (num k))from rfl) empty 9999
 same:=fun k=>by rw[hn];show((q==q)&&(num k==num k))=true;simp
 find:=fun fv m k es w h=>by
  have:=B6 (q':=q) num hn hi k m es 0 h
  simp only[Instr.findKey,Sem.run_bind,run_underlying hu,Result.andThen_ok,this,Sem.run_pure]
  cases dT m k<;>simp
@[reducible] def i64 (n:Int):Value:= .int .i64 n
instance (kt:TypeId) [h:eN P kt (.int .i64)]:ou P kt i64:=Cs id (fun _=>rfl) (fun _ _ h=>h) h.eq
instance (kt:TypeId) [h:eN P kt (.int .u32)]:ou P kt u32:=Cs (fun k=>(k.toNat:Int)) (fun _=>rfl) (fun a b h=>UInt32.toNat_inj.1 (by omega)) h.eq
instance (k:Int):hU i64 (.int .i64 k) k:=⟨rfl⟩
instance (v:Value) (k:UInt32) [h:ej v k]:hU u32 v k:=⟨h.eq⟩
instance (v:Value) (k:UInt64) [h:eU v k]:hU u64 v k:=⟨h.eq⟩
end
section
open Go.RowKit
variable {P:Program} {n:fT} {w0:World} {E:Env} {D:List Deferred} {H F F2 R:af}
section
variable {t:TypeId} {v u:Value}
theorem Gr {x:UInt32} {q:IntKind} (k:Nat) (kk:UInt32) (h:kk.toNat=k) (hk:k<32):dL P .shr t (u32 x) (.int q (k:Int)) (u32 (x>>>kk)):=by
 refine⟨fun w=> ?_,fun w _ _=>bF _ _ _ _ _ _ _ _ _⟩
 have hp:((2:Int) ^ k)=((2 ^ k:Nat):Int):=by simp
 have e:u32 (x>>>kk)= .int .u32 (((x.toNat:Int)).fdiv (2 ^ k)):=by
  refine(pL ?_).symm
  rw[UInt32.toNat_shiftRight,h,Nat.mod_eq_of_lt hk,Nat.shiftRight_eq_div_pow,hp,Int.fdiv_eq_ediv_of_nonneg _ (Int.natCast_nonneg _)]
  rfl
 rw[e]
 have h0:¬((k:Int)<0):=by omega
 have hm:min k 32=k:=by omega
 show(Op.shift .shr .u32 (x.toNat:Int) q (k:Int)).run P w=_
 unfold Op.shift
 rw[if_neg h0]
 show Result.ok (Value.int .u32 ((x.toNat:Int).fdiv (2 ^ min (k:Int).toNat 32))) w=_
 rw[Int.toNat_natCast,hm]
instance {x:UInt32}:dL P .shr t (u32 x) (.int .u64 24) (u32 (x>>>24)):=Gr 24 24 rfl (by decide)
instance {x:UInt32}:dL P .shr t (u32 x) (.int .u64 16) (u32 (x>>>16)):=Gr 16 16 rfl (by decide)
instance {x:UInt32}:dL P .shr t (u32 x) (.int .u64 8) (u32 (x>>>8)):=Gr 8 8 rfl (by decide)
instance {x:UInt32}:dL P .shr t (u32 x) (.int .u64 1) (u32 (x>>>1)):=Gr 1 1 rfl (by decide)
end
theorem Jj (x:UInt32):be x=[(x>>>24).toUInt8,(x>>>16).toUInt8,(x>>>8).toUInt8,x.toUInt8]:=by
 have hx:=x.toNat_lt
 have e:∀(k:Nat) (a:Nat) (kk:UInt32),kk.toNat=k→k<32→a % 256=x.toNat / 2 ^ k % 256→UInt8.ofNat a=(x>>>kk).toUInt8:=fun k a kk h1 h2 h=>by
  rw[←UInt8.toNat_inj]
  simp only[UInt8.toNat_ofNat',UInt32.toNat_toUInt8,UInt32.toNat_shiftRight,h1,Nat.mod_eq_of_lt h2,Nat.shiftRight_eq_div_pow]
  exact h
 unfold be
 congr 1
 ·exact e 24 _ 24 rfl (by decide) rfl
 ·congr 1
  ·exact e 16 _ 16 rfl (by decide) (by simp)
  ·congr 1
   ·exact e 8 _ 8 rfl (by decide) (by simp)
   ·congr 1
    rw[←UInt8.toNat_inj];simp
class Bytes (cs:List Value) (l:outParam (List UInt8)):Prop where eq:cs=l.flatMap bU
instance (z:List Value):Bytes (List.append [] (j4 z 0)) []:=⟨rfl⟩
instance (v:Value) (cs:List Value) (b:UInt8) (l:List UInt8) [h:tc v b] [h2:Bytes cs l]:Bytes (v::cs) (b::l):=⟨by rw[h.eq,h2.eq];rfl⟩
section
variable {d:Option Tmp} {ty:TypeId} {pos:String} {after:Array Edge} {gu:Option (Nat×Bool)} {x y:Operand}
theorem wk {src t:TypeId} {v:Value} {a:UInt32} {ds:TypeDesc} (hx:E.ev x=some v) (hv:ej v a) (hs:eN P src ds) (hd:eN P t (.int .u8)):cD P n w0 ⟨d,.convert src t x,ty,pos,after,gu⟩ E H (u8 a.toUInt8):=by
 obtain⟨rfl⟩:=hv
 exact kX hx hs hd (by have:=a.toNat_lt;rw[wrap_u8];simp)
theorem IY {t e:TypeId} {len size:Nat} {parts:List (Nat×Operand)} {vs:List (Nat×Value)} {z:Value} {zs cs:List Value} (ht:eN P t (.array len e)) (hs:GL P e size) (hz:Zero P t z zs) (hv:E.kh parts=some vs) (hb:Od size zs vs=some cs):
 cD P n w0 ⟨d,.build t parts.toArray,ty,pos,after,gu⟩ E H (.agg cs.toArray):=fun a w s eI=>by
 obtain⟨it,Ue,OG⟩:=Option.map_eq_some_iff.1 hz.eq
 obtain⟨ie,Lp,Nf⟩:=Option.map_eq_some_iff.1 hs.eq
 have e1:=s.kh hv
 have e2:(parts.toArray.map fun(i,x)=>(i,a.eval x)).toList=vs:=by simpa using e1
 have h:=run_build (P:=P) w t (parts.toArray.map fun(i,x)=>(i,a.eval x)) cs.toArray (by
  rw[e2]
  simp only[Program.built,Ue,ht.eq,OG,Lp,Nf]
  rw[gX,hz.cells]
  exact AB size vs zs cs hb)
 simp only[execOp,Sem.run_bind,h,Result.andThen_ok,Sem.run_pure]
theorem cn.ob {o:Oper} {α β:Type} {v:α→Value} {post:α→af} {v':β→Value} {mr:β→af} (h:cn P n w0 o E H v post) (hw:∀x,∃y,v x=v' y∧aq (post x) (mr y)):cn P n w0 o E H v' mr:=by
 obtain⟨pre,zK,F,hT,hH,he⟩:=h
 refine⟨H,mr,emp,fun G a w K Q s hs hK=> ?_,bl.symm,fun _=>bl.symm⟩
 refine hT (F*G) a w K Q s (hs.cast (by rw[hH,ad])) fun x w' eI=> ?_
 obtain⟨y,e1,e2⟩:=hw x
 rw[e1]
 refine hK y w' ((aq.star e2 (aq.refl G)).sat (eI.cast (by rw[he,ad])))
theorem lF {t e:TypeId} {len:Nat} {parts:List (Nat×Operand)} {vs:List (Nat×Value)} {zs cs:List Value} {ys:List UInt8} (ht:eN P t (.slice e)) (hz:Zero P e (u8 0) zs) (hs:GL P e 1) (hl:Nat.beq zs.length 1=true) (Ru:Nat.ble (len*1) 16777216=true) (rX:Nat.blt 0 (len*1)=true) (hv:E.kh parts=some vs) (hb:Od 1 (j4 zs len) vs=some cs) (hc:Bytes cs ys) (hm:ys.length=len) (Hk:Nat.ble len 1000000=true):
 cn P n w0 ⟨d,.buildSlice t len parts.toArray,ty,pos,after,gu⟩ E H (fun v':Value=>v') (fun v'=>rows e 1 bU v' ys*H):=
 (rl ht hz hs hl Ru rX hv hb).ob fun g=>⟨_,rfl,aq.Dc ys hc.eq hm (Nat.le_of_ble_eq_true Hk)⟩
theorem te {α:Type} {t e:TypeId} {size bytes:Nat} {f f':α→List Value} {v u:Value} {l ys:List α} (hx:E.ev x=some v) (hy:E.ev y=some u) (hl:dD H v α e size f l F) (yz:dD F u α e size f' ys F2) (Hj:f'=f) (hT:lj P t e size bytes) (hf:cY f size) (h1:∀z,∀c∈f z,c.oneCell'=true) (hn:l.length+ys.length≤1000000) (uX:Nat.ble bytes 1000=true):
 cn P n w0 ⟨d,.call ⟨.builtin .append,#[x,y],#[t,t]⟩,ty,pos,after,gu⟩ E H (fun v':Value=>v') (fun v'=>rows e size f v' (l++ys)*F2):=
 (aR hx hy hl yz Hj hT hf h1 hn uX).ob fun v'=>⟨v',rfl,aq.star (aq.refl _) (aq.drop _ _)⟩
theorem Fw {f:FuncId} {args:List Value} {α β:Type} {e:TypeId} {size:Nat} {fc:β→List Value} {v:Value} {l:List β} {res:α→Value} {post:α→af} {xs:List Operand} {ts:Array TypeId} (hf:aA P f) (eB:E.mU xs=some args) (spec:Spec P w0 f args (rows e size fc v l) res post) (hl:dD H v β e size fc l F):
 cn P n w0 ⟨d,.call ⟨.value (.func f),xs.toArray,ts⟩,ty,pos,after,gu⟩ E H res (fun x=>post x*F):=cn.mk' (wq hf eB spec) hl.eq
class Sw (l:List Oper) (i:Nat) (o:outParam Oper):Prop where eq:l[i]? =some o
instance RT (o:Oper) (l:List Oper):Sw (o::l) 0 o:=⟨rfl⟩
instance RS (a o:Oper) (l:List Oper) (i:Nat) [h:Sw l i o]:Sw (a::l) (i+1) o:=⟨h.eq⟩
class Perm (l:List Oper) (idx:List Nat) (l':outParam (List Oper)):Prop where eq:idx.map (l[·]?)=l'.map some
instance perm_nil (l:List Oper):Perm l [] []:=⟨rfl⟩
instance perm_cons (l l':List Oper) (i:Nat) (r:List Nat) (o:Oper) [h:Sw l i o] [h2:Perm l r l']:Perm l (i::r) (o::l'):=⟨by simp only[List.map_cons,h.eq,h2.eq]⟩
class Own (H X:af) (F:outParam af):Prop where eq:H=X*F
instance R3 (X F:af):Own (X*F) X F:=⟨rfl⟩
instance (priority:=low) R7 (Y X H F:af) [h:Own H X F]:Own (Y*H) X (Y*F):=⟨by rw[h.eq,aM]⟩
instance (priority:=low) R4 (Y X H F:af) [h:Own Y X F]:Own (Y*H) X (F*H):=⟨by rw[h.eq,ad]⟩
instance R5 (X:af):Own X X emp:=⟨bl.symm⟩
instance (priority:=low) Ti (H:af):Own H emp H:=⟨aB.symm⟩
theorem LF {ops:Array Oper} {Q:Exit→St→Prop} {B:Nat→Bool} {k cp:Nat} (h:Q .normal ⟨E,D,R*F⟩):DL P n w0 ops Q D R emp B cp k false [] E F:= .nil (by simp only[hp,cond_false];rw[aB]) h
theorem I4 {Q:Exit→St→Prop} {l l':List Oper} {id g:Nat} {t:TypeId} {cs:List Value} (idx:List Nat) (hs:iT P l idx (fun _=>false) 1000=true) (hl:Perm l idx l') (h:DL P n w0 l.toArray Q D (aK g t cs) emp (fun _=>false) 1000 0 false l' E F):WS P n w0 (.region id l.toArray true) Q ⟨E,D,aK g t cs*F⟩:=
 iK idx l' (aK g t cs) emp F _ 1000 hs (by rw[aB]) hl.eq h
theorem aq.take {X F':af} [h:Own H X F] (r:aq F F'):aq H (X*F'):=by rw[h.eq];exact aq.tail _ r
theorem aq.Dr {α:Type} {e:TypeId} {size:Nat} {f:α→List Value} {v:Value} {l l':List α} {F':af} [h:dD H v α e size f l F] (hl:l=l') (r:aq F F'):aq H (rows e size f v l'*F'):=by rw[h.eq,hl];exact aq.tail _ r
theorem aq.last {X:af} [h:Own H X F]:aq H X:=by rw[h.eq,nt];exact aq.drop _ _
theorem aa {f:FuncId} {args:List Value} {α:Type} {X:af} {res:α→Value} {post:α→af} {xs:List Operand} {ts:Array TypeId} (hf:aA P f) (eB:E.mU xs=some args) (spec:Spec P w0 f args X res post) (hl:Own H X F):
 cn P n w0 ⟨d,.call ⟨.value (.func f),xs.toArray,ts⟩,ty,pos,after,gu⟩ E H res (fun x=>post x*F):=cn.mk' (wq hf eB spec) hl.eq
end
def kT (r:ResultVar) (a:Act):Sem Value:=match r with
 | .tmp t=>pure (a.tmps.getD t undef)
 | .cell b t=>do loadVar t (←asAddr (a.tmps.getD b undef))
def RV (P:Program) (n:fT) (w0:World) (E:Env) (H:af) (r:ResultVar) (v:Value):Prop:=∀a w,fV n E a→Sat w0 w H→(kT r a).run P w= .ok v w
theorem bh {t:Nat} {v:Value} (h:E.get t=some v):RV P n w0 E H (.tmp t) v:=fun a w s hs=>by
 show Result.ok (a.tmps.getD t undef) w=_
 rw[s.get t v h]
theorem aS {b g off size:Nat} {t bt:TypeId} {cs vs:List Value} (hx:E.get b=some (ptr g off)) (hl:cZ H g bt cs F) (ht:mN P t size) (hv:Dq cs off size=some vs):RV P n w0 E H (.cell b t) (.agg vs.toArray):=fun a w s hs=>by
 obtain⟨hle,Mt⟩:=yh hv
 have hlen:vs.length=size:=by rw[Mt];simp;omega
 have hc:∀j u,vs[j]? =some u→w.cell? ((⟨g,off,none⟩:Addr).add j)=some u:=fun j u hu=>by
  have hj:j<size:=by rw[←hlen];exact(List.getElem?_eq_some_iff.1 hu).1
  rw[add_lit,Sat.cell (hs.cast hl.eq)]
  rw[Mt,List.getElem?_take,if_pos hj,List.getElem?_drop]at hu
  simpa using hu
 have hd:=ht.ok
 obtain⟨dd,sX⟩:∃dd,P.underlying t=some dd:=by
  cases hu:P.underlying t with
  |none=>rw[hu]at hd;cases hd
  |some dd=>exact⟨dd,rfl⟩
 rw[sX]at hd
 have tJ:(isAgg t).run P w= .ok true w:=by
  simp only[isAgg,Sem.run_bind,run_underlying sX,Result.andThen_ok]
  cases dd<;>simp_all [L3]
 obtain⟨i,hi,uZ⟩:=Option.map_eq_some_iff.1 ht.size
 have hz:(sizeOf t).run P w= .ok size w:=by simp[sizeOf,typeInfo,hi,uZ]
 have hr:=run_loadCells_list (P:=P) (w:=w) ⟨g,off,none⟩ vs hc
 rw[hlen]at hr
 show(do loadVar t (←asAddr (a.tmps.getD b undef)):Sem Value).run P w=_
 rw[s.get b _ hx]
 simp[asAddr,loadVar,tJ,hz,hr]
theorem BF {b g off:Nat} {t bt:TypeId} {cs:List Value} {v:Value} (hx:E.get b=some (ptr g off)) (hl:cZ H g bt cs F) (ht:fi P t) (hv:AH cs off=some v):RV P n w0 E H (.cell b t) v:=fun a w s hs=>by
 have h:=cm (P:=P) (n:=n) (w0:=w0) (H:=H) (x:= .tmp b) (d:=none) (ty:=0) (pos:= "") (after:= #[]) (gu:=none) (t:=t) hx hl ht hv a w s hs
 show(do loadVar t (←asAddr (a.tmps.getD b undef)):Sem Value).run P w=_
 rw[s.get b _ hx]
 have he:a.eval (.tmp b)=ptr g off:=s.get b _ hx
 simp only[execOp,he,Instr.loadAt,Instr.sureAddr,Sem.run_bind,Sem.run_pure,Result.andThen_ok]at h
 cases hr:(loadVar t ⟨g,off,none⟩).run P w with
 |ok u w'=>
  rw[hr]at h
  simp only[Result.andThen_ok,Sem.run_pure]at h
  cases h
  simp[asAddr,hr]
 |halt x w'=>rw[hr]at h;cases h
theorem zO {fn:Func} {r:ResultVar} {a:Act} {w:World} {v:Value} (hr:fn.results= #[r]) (h:(kT r a).run P w= .ok v w):(results fn a.tmps).run P w= .ok v w:=by
 have e:results fn a.tmps=kT r a:=by
  unfold results;rw[hr]
  cases r<;>simp[kT]
 rw[e,h]
theorem zP {fn:Func} {r r2:ResultVar} {a:Act} {w:World} {v v2:Value} (hr:fn.results= #[r,r2]) (h:(kT r a).run P w= .ok v w) (h2:(kT r2 a).run P w= .ok v2 w):(results fn a.tmps).run P w= .ok (.tuple #[v,v2]) w:=by
 have e:results fn a.tmps=(do let v←kT r a;let v2←kT r2 a;pure (.tuple #[v,v2])):=by
  unfold results;rw[hr]
  cases r<;>cases r2<;>simp[kT]
 rw[e]
 simp only[Sem.run_bind,h,h2,Result.andThen_ok,Sem.run_pure]
theorem H8 {fn:Func} {r r2 r3:ResultVar} {a:Act} {w:World} {v v2 v3:Value} (hr:fn.results= #[r,r2,r3]) (h:(kT r a).run P w= .ok v w) (h2:(kT r2 a).run P w= .ok v2 w) (h3:(kT r3 a).run P w= .ok v3 w):(results fn a.tmps).run P w= .ok (.tuple #[v,v2,v3]) w:=by
 have e:results fn a.tmps=(do let v←kT r a;let v2←kT r2 a;let v3←kT r3 a;pure (.tuple #[v,v2,v3])):=by
  unfold results;rw[hr]
  cases r<;>cases r2<;>cases r3<;>simp[kT]
 rw[e]
 simp only[Sem.run_bind,h,h2,h3,Result.andThen_ok,Sem.run_pure]
section
variable {fn:Func} {R:Value→af→Prop} {r r2 r3:ResultVar} {v v2 v3:Value}
theorem gD {e:Exit} (he:e= .ret∨e= .normal) (hr:fn.results= #[r]) (h1:RV P n w0 E H r v) (h:R v H):Bf P n w0 fn R e ⟨E,[],H⟩:=by
 rcases he with rfl|rfl<;>exact⟨rfl,v,fun a w g=>zO hr (h1 a w g.dQ g.sat),h⟩
theorem dF {e:Exit} (he:e= .ret∨e= .normal) (hr:fn.results= #[r,r2]) (h1:RV P n w0 E H r v) (h2:RV P n w0 E H r2 v2) (h:R (.tuple #[v,v2]) H):Bf P n w0 fn R e ⟨E,[],H⟩:=by
 rcases he with rfl|rfl<;>exact⟨rfl,_,fun a w g=>zP hr (h1 a w g.dQ g.sat) (h2 a w g.dQ g.sat),h⟩
theorem qm {e:Exit} (he:e= .ret∨e= .normal) (hr:fn.results= #[r,r2,r3]) (h1:RV P n w0 E H r v) (h2:RV P n w0 E H r2 v2) (h3:RV P n w0 E H r3 v3) (h:R (.tuple #[v,v2,v3]) H):Bf P n w0 fn R e ⟨E,[],H⟩:=by
 rcases he with rfl|rfl<;>exact⟨rfl,_,fun a w g=>H8 hr (h1 a w g.dQ g.sat) (h2 a w g.dQ g.sat) (h3 a w g.dQ g.sat),h⟩
end
theorem mw (H:af) {α:Type} (size:Nat) (f:α→List Value):eX w0 H (.slice none 0 0) α size f []:=⟨fun w hs=>⟨⟨none,0,rfl,Nat.zero_le _,Nat.zero_le _⟩,fun k hk=>by simp at hk⟩⟩
end
end Go.Proofs.YtapoehkdnglahabGreat

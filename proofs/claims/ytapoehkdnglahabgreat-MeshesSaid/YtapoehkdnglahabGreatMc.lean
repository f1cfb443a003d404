/- A part. -/
import Derived.Test.YtapoehkdnglahabGreatMb
set_option linter.all false
namespace Go.Proofs.YtapoehkdnglahabGreat
section
open Go.RowKit
variable {P:Program} {n:fT} {w0:World} {E:Env} {D:List Deferred} {H F F2 R:af} {ops:Array Oper} {l':List Oper} {Q:Exit->St->Prop} {w:World}
section pairs
variable {κ ν:Type} [DecidableEq κ]
def dT:List (κ×ν)->κ->Option Nat
 |[],_=>none
 |p::r,k=>if p.1=k then some 0 else(dT r k).map (·+1)
def bX (m:List (κ×ν)) (k:κ):Option ν:=match dT m k with
 |some i=>(m[i]?).map (·.2)
 |none=>none
def bY (m:List (κ×ν)) (k:κ) (v:ν):List (κ×ν):=match dT m k with
 |some i=>m.set i (k,v)
 |none=>m++[(k,v)]
def gq (m:List (κ×ν)) (k:κ):List (κ×ν):=match dT m k with
 |some i=>m.eraseIdx i
 |none=>m
theorem lU:∀{m:List (κ×ν)} {k:κ} {i:Nat},dT m k=some i->∃v,m[i]? =some (k,v)
 |[],_,_,h=>by cases h
 |p::r,k,i,h=>by
  simp only[dT]at h;split at h
  ·rename_i e;cases h;exact⟨p.2,by subst e;rfl⟩
  ·cases hr:dT r k with
   |none=>rw[hr]at h;cases h
   |some j=>rw[hr]at h;cases h;obtain⟨v,hv⟩:=lU hr;exact⟨v,by simpa using hv⟩
theorem tT {m:List (κ×ν)} {k v} (h:bX m k=some v):∃i,dT m k=some i/\m[i]? =some (k,v):=by
 unfold bX at h;cases hf:dT m k with
 |none=>rw[hf]at h;cases h
 |some i=>
  rw[hf]at h;obtain⟨u,hu⟩:=lU hf;simp only[hu,EL,Z9]at h;subst h;exact⟨i,rfl,hu⟩
theorem HA {m:List (κ×ν)} {k} (h:bX m k=none):dT m k=none:=by
 unfold bX at h;cases hf:dT m k with
 |none=>rfl
 |some i=>
  rw[hf]at h;obtain⟨u,hu⟩:=lU hf;simp[hu]at h
end pairs
class ou (P:Program) (kt:TypeId) {κ:Type} (fk:κ->Value):Prop where
 check:∀(empty:Bool) (k:κ) (w:World),(Instr.checkKey empty 10000 kt (fk k)).run P w= .ok () w
 same:∀k:κ,Instr.sameBits 10000 (fk k) (fk k)=true
 find:∀[DecidableEq κ] {ν:Type} (fv:ν->Value) (m:List (κ×ν)) (k:κ) (es:List MapEntry) (w:World),es.map (λe=>(e.key,e.val))=m.map (λp=>(fk p.1,fv p.2))->
  (Instr.findKey kt (fk k) es).run P w= .ok ((dT m k).bind λi=>(m[i]?).map λp=>(i,fv p.2)) w
def mp {κ ν:Type} (fk:κ->Value) (fv:ν->Value) (r:Nat) (m:List (κ×ν)):af:=
 ⟨λh=>∃(es:Array MapEntry) (clock:Nat),h=(λk=>if k=r then some (.map es clock)else none)/\es.toList.map (λe=>(e.key,e.val))=m.map (λp=>(fk p.1,fv p.2))/\(es.toList.map (·.born)).Nodup/\∀e∈es.toList,e.born<clock⟩
theorem Sat.oV {κ ν fk fv r} {m:List (κ×ν)} (h:Sat w0 w (mp fk fv r m*F)):
 ∃es clock,w.heap[r]? =some (.map es clock)/\es.toList.map (λe=>(e.key,e.val))=m.map (λp=>(fk p.1,fv p.2))/\(es.toList.map (·.born)).Nodup/\(∀e∈es.toList,e.born<clock)/\Sat w0 w (pM r (.map es clock)*F):=by
 obtain⟨x,⟨a,b,hd,he,⟨es,clock,hp,h1,h2,h3⟩,hq⟩,hk⟩:=h.heap
 have hs:Sat w0 w (pM r (.map es clock)*F):=⟨h.os,h.tape,h.output,x,⟨a,b,hd,he,hp,hq⟩,hk⟩
 exact⟨es,clock,hs.at_,h1,h2,h3,hs⟩
theorem Sat.map_mk {κ ν:Type} {fk:κ->Value} {fv:ν->Value} {r:Nat} {m:List (κ×ν)} {es:Array MapEntry} {clock:Nat} (h:Sat w0 w (pM r (.map es clock)*F)) (h1:es.toList.map (λe=>(e.key,e.val))=m.map (λp=>(fk p.1,fv p.2))) (h2:(es.toList.map (·.born)).Nodup) (h3:∀e∈es.toList,e.born<clock):
 Sat w0 w (mp fk fv r m*F):=h.mono λ_ ⟨a,b,hd,he,hp,hq⟩=>⟨a,b,hd,he,⟨es,clock,hp,h1,h2,h3⟩,hq⟩
theorem Sat.setObj {r o o'} (h:Sat w0 w (pM r o*F)):Sat w0 {w with heap:=w.heap.setIfInBounds r o'} (pM r o'*F):=by
 have bW:=h.lt;refine Sat.put h rfl rfl rfl ?_ λk _ hk=> ?_
 ·simp[bW]
 ·simp[ubx (uaT hk)]
theorem run_getObj_map {r es clock} (h:w.heap[r]? =some (.map es clock)):(getObj r).run P w= .ok (.map es clock) w:=by
 simp[getObj,Sem.run,h]
theorem run_setObj_map {r es clock o} (h:w.heap[r]? =some (.map es clock)):(setObj r o).run P w= .ok () {w with heap:=w.heap.setIfInBounds r o}:=by
 simp[setObj,Sem.run,h]
class rp (P:Program) (t:TypeId) (kt et:outParam TypeId):Prop where
 eq:P.underlying t=some (.map kt et)
instance (t kt et:TypeId) [h:eN P t (.map kt et)]:rp P t kt et:=⟨h.eq⟩
def tZ {ν:Type} (fv:ν->Value) (z:Value):Option ν->Value
 |some v=>fv v
 |none=>z
class jQ (H:af) (r:Nat) (κ ν:outParam Type) (fk:outParam (κ->Value)) (fv:outParam (ν->Value)) (m:outParam (List (κ×ν))) (F:outParam af):Prop where
 eq:H=mp fk fv r m*F
instance Pn {κ ν:Type} (fk:κ->Value) (fv:ν->Value) (r:Nat) (m:List (κ×ν)) (F:af):jQ (mp fk fv r m*F) r κ ν fk fv m F:=⟨rfl⟩
instance (priority:=low) Pp {κ ν:Type} (X H F:af) (fk:κ->Value) (fv:ν->Value) (r:Nat) (m:List (κ×ν)) [h:jQ H r κ ν fk fv m F]:jQ (X*H) r κ ν fk fv m (X*F):=⟨by rw[h.eq,aM]⟩
instance (priority:=low) Po {κ ν:Type} (X H F:af) (fk:κ->Value) (fv:ν->Value) (r:Nat) (m:List (κ×ν)) [h:jQ X r κ ν fk fv m F]:jQ (X*H) r κ ν fk fv m (F*H):=⟨by rw[h.eq,ad]⟩
class zaF {κ:Type} (fk:κ->Value) (v:Value) (k:outParam κ):Prop where
 eq:v=fk k
section mapops
variable {κ ν:Type} [DecidableEq κ] {fk:κ->Value} {fv:ν->Value} {r:Nat} {m:List (κ×ν)} {d:Option Tmp} {ty:TypeId} {pos:String} {after:Array Edge} {gu:Option (Nat×Bool)} {x y z':Operand} {t kt et:TypeId} {k:κ} {v:Value}
theorem ya (w) {z} (hm:P.underlying t=some (.map kt et)) (hz:(P.info? et).map (·.zero)=some (some z)) [hk:ou P kt fk] (hs:Sat w0 w (mp fk fv r m*F)) (ok):
 (Instr.lookup t (.map (some r)) (fk k) ok).run P w= .ok (if ok then .tuple #[tZ fv z (bX m k),.bool (bX m k).isSome]else tZ fv z (bX m k)) w:=by
 obtain⟨es,clock,l5,h1,_,_,_⟩:=hs.oV
 have hf:=hk.find fv m k es.toList w h1
 obtain⟨i,hi,uZ⟩:=AU.1 hz
 cases hg:bX m k with
 |none=>
  rw[HA hg]at hf
  simp only[ubJ]at hf
  simp[Instr.lookup,run_underlying hm,run_getObj_map l5,hk.check,hf,zeroValue,typeInfo,hi,uZ,tZ]
 |some u=>
  obtain⟨j,hj,hu⟩:=tT hg
  rw[hj]at hf
  simp only[G6,hu,EL]at hf
  simp[Instr.lookup,run_underlying hm,run_getObj_map l5,hk.check,hf,tZ]
theorem wo {z:Value} {zs:List Value} (hx:E.ev x=some (.map (some r))) (hy:E.ev y=some v) (hl:jQ H r κ ν fk fv m F) (hkk:zaF fk v k) (hm:rp P t kt et) (hz:Zero P et z zs) (hk:ou P kt fk):OpQ P n w0 ⟨d,.lookup t x y true,ty,pos,after,gu⟩ E H (.tuple #[tZ fv z (bX m k),.bool (bX m k).isSome]):=λa w s hs=>by
 obtain rfl:=hkk.eq;have:=ya (k:=k) w hm.eq hz.eq (hs.cast hl.eq) true;simp only[execOp,s.ev hx,s.ev hy,Sem.run_bind,this,Result.andThen_ok,Sem.run_pure,YZ]
theorem wm {z:Value} {zs:List Value} (hx:E.ev x=some (.map (some r))) (hy:E.ev y=some v) (hl:jQ H r κ ν fk fv m F) (hkk:zaF fk v k) (hm:rp P t kt et) (hz:Zero P et z zs) (hk:ou P kt fk):OpQ P n w0 ⟨d,.lookup t x y false,ty,pos,after,gu⟩ E H (tZ fv z (bX m k)):=λa w s hs=>by
 obtain rfl:=hkk.eq;have:=ya (k:=k) w hm.eq hz.eq (hs.cast hl.eq) false;simp only[execOp,s.ev hx,s.ev hy,Sem.run_bind,this,Result.andThen_ok,Sem.run_pure,AT,VC]
theorem CE {es:Array MapEntry} (h1:es.toList.map (λe=>(e.key,e.val))=m.map (λp=>(fk p.1,fv p.2))):es.size=m.length:=by
 have:=G2 List.length h1;simpa using this
theorem NW (hx:E.ev x=some (.map (some r))) (hl:jQ H r κ ν fk fv m F) (hm:rp P t kt et):OpQ P n w0 ⟨d,.call ⟨.builtin .len,#[x],#[t]⟩,ty,pos,after,gu⟩ E H (.int .i64 (m.length:Int)):=λa w s hs=>by
 obtain⟨es,clock,l5,h1,_,_,_⟩:=(hs.cast hl.eq).oV;have rZ:=CE h1;simp[execOp,resolve,invoke,builtin,s.ev hx,Builtin.len_,run_underlying hm.eq,run_getObj_map l5,goInt,rZ]
theorem ew (fk:κ->Value) (fv:ν->Value):cn P n w0 ⟨d,.makeMap t none,ty,pos,after,gu⟩ E H (λr=> .map (some r)) (λr=>mp fk fv r []*H):=by
 refine cn.mk' (pre:=emp) (post:=λr=>mp fk fv r []) (λG a w K Q s hs hK=> ?_) aB.symm;rw[aB]at hs;simp[Oper.wp,execOp,Instr.makeMap,Oper.upon];exact hK w.heap.size _ (Sat.map_mk (hs.alloc (.map #[] 0)) (by simp) (by simp) (by simp))
theorem fg {α β:Type} (f:α->β):∀(l:List α) (i:Nat),(l.eraseIdx i).map f=(l.map f).eraseIdx i
 |[],i=>by simp
 |x::l,0=>by simp
 |x::l,i+1=>by simp[fg f l i]
theorem sv {es:Array MapEntry} {i f} (hf:∀e,(f e).born=e.born):(es.modify i f).toList.map (·.born)=es.toList.map (·.born):=by
 apply zD;intro j;simp only[zA,ubA,uaP];by_cases h:i=j
 ·subst h;cases es[i]? <;>simp[hf]
 ·simp[h]
theorem qo (w) {u} (hm:P.underlying t=some (.map kt et)) [hk:ou P kt fk] (hs:Sat w0 w (mp fk fv r m*F)):
 ∃w',(Instr.mapUpdate t (.map (some r)) (fk k) (fv u)).run P w= .ok () w'/\Sat w0 w' (mp fk fv r (bY m k u)*F):=by
 obtain⟨es,clock,l5,h1,h2,h3,hp⟩:=hs.oV
 have hf:=hk.find fv m k es.toList w h1
 cases hg:dT m k with
 |none=>
  rw[hg]at hf
  simp only[ubJ]at hf
  refine⟨_,by simp[Instr.mapUpdate,run_underlying hm,run_getObj_map l5,hk.check,hf,run_setObj_map l5];rfl,?_⟩
  refine Sat.map_mk hp.setObj ?_ ?_ ?_
  ·simp[bY,hg,h1]
  ·simp only[Array.toList_push,EZ,Hh,Xp]
   refine Yw.2 ⟨h2,by simp,?_⟩
   intro a ha b hb
   obtain⟨e,he,rfl⟩:=HC.1 ha
   have:=h3 e he
   simp at hb
   omega
  ·intro e he
   simp only[Array.toList_push,Lz,JA,List.not_mem_nil,or_false]at he
   rcases he with he|rfl
   ·exact Nat.lt_succ_of_lt (h3 e he)
   ·exact ubH _
 |some i=>
  obtain⟨v0,ZR⟩:=lU hg
  rw[hg]at hf
  simp only[G6,ZR,EL]at hf
  have bW:i<es.size:=by rw[CE h1];exact(az.1 ZR).1
  have Uh:es[i].key=fk k:=by
   have:=G2 (·[i]?) h1;simp[ZR,bW]at this;exact this.1
  refine⟨_,by simp[Instr.mapUpdate,run_underlying hm,run_getObj_map l5,hk.check,hf,bW,Uh,Instr.keyThatStays,hk.same,run_setObj_map l5];rfl,?_⟩
  refine Sat.map_mk hp.setObj ?_ ?_ ?_
  ·apply zD
   intro j
   have hj:=G2 (·[j]?) h1
   simp only[bY,hg,zA,ubA,uaP,Dg]at hj ⊢
   by_cases OE:i=j
   ·subst OE
    have V7:i<m.length:=(az.1 ZR).1
    simp[bW,V7]
   ·simp only[OE,VC];exact hj
  ·exact(sv (es:=es) (i:=i) (f:=λe=>⟨fk k,fv u,e.born⟩) (λ_=>rfl)).symm▸h2
  ·intro e he
   have:e.born∈(es.modify i λe=>{e with key:=fk k,val:=fv u}).toList.map (·.born):=HC.2 ⟨e,he,rfl⟩
   have sY:=sv (es:=es) (i:=i) (f:=λe=>⟨fk k,fv u,e.born⟩) (λ_=>rfl)
   rw[show((es.modify i λe=>{e with key:=fk k,val:=fv u}).toList.map (·.born))=es.toList.map (·.born)from sY]at this
   obtain⟨e',Mi,hb⟩:=HC.1 this
   rw[<-hb];exact h3 e' Mi
theorem dt {u:ν} {uv:Value} (hx:E.ev x=some (.map (some r))) (hy:E.ev y=some v) (hz:E.ev z'=some uv) (hl:jQ H r κ ν fk fv m F) (hkk:zaF fk v k) (UN:zaF fv uv u) (hm:rp P t kt et) (hk:ou P kt fk):
 cn P n w0 ⟨none,.mapUpdate t x y z',ty,pos,after,gu⟩ E H (λ_:Unit=>undef) (λ_=>mp fk fv r (bY m k u)*F):=by
 obtain rfl:=hkk.eq
 obtain rfl:=UN.eq
 refine cn.mk' (pre:=mp fk fv r m) (post:=λ_=>mp fk fv r (bY m k u)) (λG a w K Q s hs hK=> ?_) hl.eq
 obtain⟨w',hr,eI⟩:=qo (k:=k) (u:=u) w hm.eq hs
 have:=hK () w' eI
 simp only[Act.put]at this
 simp only[Oper.wp,execOp,s.ev hx,s.ev hy,s.ev hz,Sem.run_bind,hr,Result.andThen_ok,Sem.run_pure,Oper.upon_skip]
 exact this
theorem ky {d:Option Tmp} (hx:E.ev x=some (.map (some r))) (hy:E.ev y=some v) (hl:jQ H r κ ν fk fv m F) (hkk:zaF fk v k) {t2:TypeId} (hm:rp P t kt et) (hk:ou P kt fk):
 cn P n w0 ⟨d,.call ⟨.builtin .delete,#[x,y],#[t,t2]⟩,ty,pos,after,gu⟩ E H (λ_:Unit=> .tuple #[]) (λ_=>mp fk fv r (gq m k)*F):=by
 obtain rfl:=hkk.eq
 refine cn.mk' (pre:=mp fk fv r m) (post:=λ_=>mp fk fv r (gq m k)) (λG a w K Q s hs hK=> ?_) hl.eq
 obtain⟨es,clock,l5,h1,h2,h3,hp⟩:=hs.oV
 have hf:=hk.find fv m k es.toList w h1
 have key:∃w',(Builtin.delete_ #[t,t2] ty #[.map (some r),fk k]).run P w= .ok (.tuple #[]) w'/\Sat w0 w' (mp fk fv r (gq m k)*G):=by
  cases hg:dT m k with
  |none=>
   rw[hg]at hf;simp only[ubJ]at hf;refine⟨_,by simp[Builtin.delete_,run_underlying hm.eq,run_getObj_map l5,hk.check,hf,run_setObj_map l5];rfl,?_⟩;exact Sat.map_mk hp.setObj (by simpa [gq,hg]using h1) h2 h3
  |some i=>
   obtain⟨v0,ZR⟩:=lU hg;rw[hg]at hf;simp only[G6,ZR,EL]at hf;refine⟨_,by simp[Builtin.delete_,run_underlying hm.eq,run_getObj_map l5,hk.check,hf,run_setObj_map l5];rfl,?_⟩;have hE:(es.eraseIdxIfInBounds i).toList=es.toList.eraseIdx i:=by simp[Array.eraseIdxIfInBounds];split<;>simp_all [List.eraseIdx_of_length_le]
   refine Sat.map_mk hp.setObj ?_ ?_ ?_
   ·rw[hE,fg,h1,<-fg];simp[gq,hg]
   ·rw[hE,fg];exact h2.sublist (W8 _ _)
   ·intro e he;rw[hE]at he;exact h3 e ((W8 _ _).subset he)
 obtain⟨w',hr,eI⟩:=key
 simp only[Oper.wp,execOp,resolve,invoke,builtin,Sem.run_bind,Sem.run_pure,Result.andThen_ok,ubh,Hh,Xp,s.ev hx,s.ev hy,hr,Oper.upon_value]
 exact hK () w' eI
end mapops
theorem B6 {κ ν:Type} [DecidableEq κ] {fk:κ->Value} {fv:ν->Value} {q q':IntKind} (num:κ->Int) (hn:∀k,fk k= .int q (num k)) (hi:∀a b,num a=num b->a=b) (k:κ):∀(m:List (κ×ν)) (es:List MapEntry) (i:Nat),es.map (λe=>(e.key,e.val))=m.map (λp=>(fk p.1,fv p.2))->
 Instr.findNow (.int q') (fk k) es i=some ((dT m k).bind λj=>(m[j]?).map λp=>(i+j,fv p.2))
 |[],es,i,h=>by
  have:es=[]:=by simpa using h
  subst this;rfl
 |p::m,[],i,h=>by simp at h
 |p::m,e::es,i,h=>by
  simp only[Hh,ubp,ua9]at h;obtain⟨⟨h1,h2⟩,h3⟩:=h;have ih:=B6 (q':=q') num hn hi k m es (i+1) h3;simp only[Instr.findNow,h1,hn,Instr.sameNow,YZ];by_cases he:p.1=k
  ·subst he;simp[dT,h2]
  ·have mi:(num k==num p.1)=false:=by rw[beq_eq_false_iff_ne];exact λe=>he (hi _ _ e.symm)
   rw[mi];simp only;rw[<-hn,ih];simp only[dT,he,VC];cases dT m k with
   |none=>rfl
   |some j=>simp[uba,Nat.add_comm 1 j]
theorem Cs {κ:Type} {fk:κ->Value} {kt:TypeId} {q:IntKind} (num:κ->Int) (hn:∀k,fk k= .int q (num k)) (hi:∀a b,num a=num b->a=b) (hu:P.underlying kt=some (.int q)):ou P kt fk where
 check:=λempty k w=>by rw[hn];exact Go.MapKept.run_checkKey hu (show Go.MapKept.IsKey (.int q) (.int q (num k))from rfl) empty 9999
 same:=λk=>by rw[hn];show((q==q)&&(num k==num k))=true;simp
 find:=λfv m k es w h=>by
  have:=B6 (q':=q) num hn hi k m es 0 h;simp only[Instr.findKey,Sem.run_bind,run_underlying hu,Result.andThen_ok,this,Sem.run_pure];cases dT m k<;>simp
@[reducible] def i64 (n:Int):Value:= .int .i64 n
instance (kt:TypeId) [h:eN P kt (.int .i64)]:ou P kt i64:=Cs id (λ_=>rfl) (λ_ _ h=>h) h.eq
instance (kt:TypeId) [h:eN P kt (.int .u32)]:ou P kt u32:=Cs (λk=>(k.toNat:Int)) (λ_=>rfl) (λa b h=>HL.1 (by omega)) h.eq
instance (k:Int):zaF i64 (.int .i64 k) k:=⟨rfl⟩
instance (v:Value) (k:UInt32) [h:zag v k]:zaF u32 v k:=⟨h.eq⟩
instance (v:Value) (k:UInt64) [h:eU v k]:zaF u64 v k:=⟨h.eq⟩
end
section
open Go.RowKit
variable {P:Program} {n:fT} {w0:World} {E:Env} {D:List Deferred} {H F F2 R:af}
section
variable {t:TypeId} {v u:Value}
theorem Gr {x q} (k) (kk:UInt32) (h:kk.toNat=k) (hk:k<32):dL P .shr t (u32 x) (.int q (k:Int)) (u32 (x>>>kk)):=by
 refine⟨λw=> ?_,λw _ _=>bF _ _ _ _ _ _ _ _ _⟩;have hp:((2:Int) ^ k)=((2 ^ k:Nat):Int):=by simp
 have e:u32 (x>>>kk)= .int .u32 (((x.toNat:Int)).fdiv (2 ^ k)):=by
  refine(pL ?_).symm;rw[ubr,h,YJ hk,ubf,hp,Int.fdiv_eq_ediv_of_nonneg _ (Int.natCast_nonneg _)];rfl
 rw[e];have h0:¬((k:Int)<0):=by omega
 have hm:min k 32=k:=by omega
 show(Op.shift .shr .u32 (x.toNat:Int) q (k:Int)).run P w=_;unfold Op.shift;rw[eQ h0];show Result.ok (Value.int .u32 ((x.toNat:Int).fdiv (2 ^ min (k:Int).toNat 32))) w=_;rw[D3,hm]
instance {x:UInt32}:dL P .shr t (u32 x) (.int .u64 24) (u32 (x>>>24)):=Gr 24 24 rfl (by decide)
instance {x:UInt32}:dL P .shr t (u32 x) (.int .u64 16) (u32 (x>>>16)):=Gr 16 16 rfl (by decide)
instance {x:UInt32}:dL P .shr t (u32 x) (.int .u64 8) (u32 (x>>>8)):=Gr 8 8 rfl (by decide)
instance {x:UInt32}:dL P .shr t (u32 x) (.int .u64 1) (u32 (x>>>1)):=Gr 1 1 rfl (by decide)
end
theorem Jj (x:UInt32):be x=[(x>>>24).toUInt8,(x>>>16).toUInt8,(x>>>8).toUInt8,x.toUInt8]:=by
 have hx:=x.toNat_lt;have e:∀(k:Nat) (a:Nat) (kk:UInt32),kk.toNat=k->k<32->a % 256=x.toNat / 2 ^ k % 256->UInt8.ofNat a=(x>>>kk).toUInt8:=λk a kk h1 h2 h=>by
  rw[<-ZW];simp only[uaB,UInt32.toNat_toUInt8,ubr,h1,YJ h2,ubf];exact h
 unfold be;congr 1
 ·exact e 24 _ 24 rfl (by decide) rfl
 ·congr 1
  ·exact e 16 _ 16 rfl (by decide) (by simp)
  ·congr 1
   ·exact e 8 _ 8 rfl (by decide) (by simp)
   ·congr 1;rw[<-ZW];simp
class Bytes (cs:List Value) (l:outParam (List UInt8)):Prop where eq:cs=l.flatMap bU
instance (z:List Value):Bytes (List.append [] (j4 z 0)) []:=⟨rfl⟩
instance (v:Value) (cs:List Value) (b:UInt8) (l:List UInt8) [h:tc v b] [h2:Bytes cs l]:Bytes (v::cs) (b::l):=⟨by rw[h.eq,h2.eq];rfl⟩
section
variable {d:Option Tmp} {ty:TypeId} {pos:String} {after:Array Edge} {gu:Option (Nat×Bool)} {x y:Operand}
theorem wk {src t:TypeId} {v:Value} {a:UInt32} {ds:TypeDesc} (hx:E.ev x=some v) (hv:zag v a) (hs:eN P src ds) (hd:eN P t (.int .u8)):OpQ P n w0 ⟨d,.convert src t x,ty,pos,after,gu⟩ E H (u8 a.toUInt8):=by
 obtain⟨rfl⟩:=hv;exact kX hx hs hd (by have:=a.toNat_lt;rw[wrap_u8];simp)
theorem IY {t e:TypeId} {len size:Nat} {parts:List (Nat×Operand)} {vs:List (Nat×Value)} {z:Value} {zs cs:List Value} (ht:eN P t (.array len e)) (hs:GL P e size) (hz:Zero P t z zs) (hv:E.kh parts=some vs) (hb:Od size zs vs=some cs):
 OpQ P n w0 ⟨d,.build t parts.toArray,ty,pos,after,gu⟩ E H (.agg cs.toArray):=λa w s eI=>by
 obtain⟨it,Ue,OG⟩:=AU.1 hz.eq
 obtain⟨ie,Lp,Nf⟩:=AU.1 hs.eq
 have e1:=s.kh hv
 have e2:(parts.toArray.map fun(i,x)=>(i,a.eval x)).toList=vs:=by simpa using e1
 have h:=run_build (P:=P) w t (parts.toArray.map fun(i,x)=>(i,a.eval x)) cs.toArray (by
  rw[e2]
  simp only[Program.built,Ue,ht.eq,OG,Lp,Nf]
  rw[gX,hz.cells]
  exact AB size vs zs cs hb)
 simp only[execOp,Sem.run_bind,h,Result.andThen_ok,Sem.run_pure]
theorem cn.zbB {o:Oper} {α β:Type} {v:α->Value} {post:α->af} {v':β->Value} {mr:β->af} (h:cn P n w0 o E H v post) (hw:∀x,∃y,v x=v' y/\aq (post x) (mr y)):cn P n w0 o E H v' mr:=by
 obtain⟨pre,zK,F,hT,hH,he⟩:=h;refine⟨H,mr,emp,λG a w K Q s hs hK=> ?_,b5.symm,λ_=>b5.symm⟩;refine hT (F*G) a w K Q s (hs.cast (by rw[hH,ad])) λx w' eI=> ?_;obtain⟨y,e1,e2⟩:=hw x;rw[e1];refine hK y w' ((aq.star e2 (aq.refl G)).sat (eI.cast (by rw[he,ad])))
theorem lF {t e:TypeId} {len:Nat} {parts:List (Nat×Operand)} {vs:List (Nat×Value)} {zs cs:List Value} {ys:List UInt8} (ht:eN P t (.slice e)) (hz:Zero P e (u8 0) zs) (hs:GL P e 1) (hl:Nat.beq zs.length 1=true) (Ru:Nat.ble (len*1) 16777216=true) (rX:Nat.blt 0 (len*1)=true) (hv:E.kh parts=some vs) (hb:Od 1 (j4 zs len) vs=some cs) (hc:Bytes cs ys) (hm:ys.length=len) (Hk:Nat.ble len 1000000=true):
 cn P n w0 ⟨d,.buildSlice t len parts.toArray,ty,pos,after,gu⟩ E H (λv':Value=>v') (λv'=>rows e 1 bU v' ys*H):=
 (rl ht hz hs hl Ru rX hv hb).zbB λg=>⟨_,rfl,aq.Dc ys hc.eq hm (Yu Hk)⟩
theorem te {α:Type} {t e:TypeId} {size bytes:Nat} {f f':α->List Value} {v u:Value} {l ys:List α} (hx:E.ev x=some v) (hy:E.ev y=some u) (hl:dD H v α e size f l F) (yz:dD F u α e size f' ys F2) (Hj:f'=f) (hT:lj P t e size bytes) (hf:cY f size) (h1:∀z,∀c∈f z,c.oneCell'=true) (hn:l.length+ys.length<=1000000) (uX:Nat.ble bytes 1000=true):
 cn P n w0 ⟨d,.call ⟨.builtin .append,#[x,y],#[t,t]⟩,ty,pos,after,gu⟩ E H (λv':Value=>v') (λv'=>rows e size f v' (l++ys)*F2):=
 (aR hx hy hl yz Hj hT hf h1 hn uX).zbB λv'=>⟨v',rfl,aq.star (aq.refl _) (aq.drop _ _)⟩
theorem Fw {f:FuncId} {args:List Value} {α β:Type} {e:TypeId} {size:Nat} {fc:β->List Value} {v:Value} {l:List β} {res:α->Value} {post:α->af} {xs:List Operand} {ts:Array TypeId} (hf:aA P f) (eB:E.mU xs=some args) (spec:Spec P w0 f args (rows e size fc v l) res post) (hl:dD H v β e size fc l F):
 cn P n w0 ⟨d,.call ⟨.value (.func f),xs.toArray,ts⟩,ty,pos,after,gu⟩ E H res (λx=>post x*F):=cn.mk' (wq hf eB spec) hl.eq
class Sw (l:List Oper) (i:Nat) (o:outParam Oper):Prop where eq:l[i]? =some o
instance RT (o:Oper) (l:List Oper):Sw (o::l) 0 o:=⟨rfl⟩
instance RS (a o:Oper) (l:List Oper) (i:Nat) [h:Sw l i o]:Sw (a::l) (i+1) o:=⟨h.eq⟩
class Perm (l:List Oper) (idx:List Nat) (l':outParam (List Oper)):Prop where eq:idx.map (l[·]?)=l'.map some
instance perm_nil (l:List Oper):Perm l [] []:=⟨rfl⟩
instance perm_cons (l l':List Oper) (i:Nat) (r:List Nat) (o:Oper) [h:Sw l i o] [h2:Perm l r l']:Perm l (i::r) (o::l'):=⟨by simp only[Hh,h.eq,h2.eq]⟩
class Own (H X:af) (F:outParam af):Prop where eq:H=X*F
instance R3 (X F:af):Own (X*F) X F:=⟨rfl⟩
instance (priority:=low) R7 (Y X H F:af) [h:Own H X F]:Own (Y*H) X (Y*F):=⟨by rw[h.eq,aM]⟩
instance (priority:=low) R4 (Y X H F:af) [h:Own Y X F]:Own (Y*H) X (F*H):=⟨by rw[h.eq,ad]⟩
instance R5 (X:af):Own X X emp:=⟨b5.symm⟩
instance (priority:=low) Ti (H:af):Own H emp H:=⟨aB.symm⟩
theorem LF {ops Q B k cp} (h:Q .normal ⟨E,D,R*F⟩):DL P n w0 ops Q D R emp B cp k false [] E F:= .nil (by simp only[hp,Yv];rw[aB]) h
theorem I4 {Q} {l l':List Oper} {id g t cs} (idx) (hs:iT P l idx (λ_=>false) 1000=true) (hl:Perm l idx l') (h:DL P n w0 l.toArray Q D (aK g t cs) emp (λ_=>false) 1000 0 false l' E F):WS P n w0 (.region id l.toArray true) Q ⟨E,D,aK g t cs*F⟩:=
 iK idx l' (aK g t cs) emp F _ 1000 hs (by rw[aB]) hl.eq h
theorem ze7 {Q:Exit->St->Prop} {l l':List Oper} {id:Nat} (R:af) (idx:List Nat) (hs:iT P l idx (λ_=>false) 1000=true) (hl:Perm l idx l') (hR:Own H R F) (h:DL P n w0 l.toArray Q D R emp (λ_=>false) 1000 0 false l' E F):WS P n w0 (.region id l.toArray true) Q ⟨E,D,H⟩:=
 iK idx l' R emp F _ 1000 hs (by rw[aB,hR.eq]) hl.eq h
theorem aq.take {X F'} [h:Own H X F] (r:aq F F'):aq H (X*F'):=by rw[h.eq];exact aq.tail _ r
theorem aq.Dr {α e size f v l l' F'} [h:dD H v α e size f l F] (hl:l=l') (r:aq F F'):aq H (rows e size f v l'*F'):=by rw[h.eq,hl];exact aq.tail _ r
theorem aq.last {X} [h:Own H X F]:aq H X:=by rw[h.eq,nt];exact aq.drop _ _
theorem aa {f:FuncId} {args:List Value} {α:Type} {X:af} {res:α->Value} {post:α->af} {xs:List Operand} {ts:Array TypeId} (hf:aA P f) (eB:E.mU xs=some args) (spec:Spec P w0 f args X res post) (hl:Own H X F):
 cn P n w0 ⟨d,.call ⟨.value (.func f),xs.toArray,ts⟩,ty,pos,after,gu⟩ E H res (λx=>post x*F):=cn.mk' (wq hf eB spec) hl.eq
end
def kT (r:ResultVar) (a:Act):Sem Value:=match r with
 | .tmp t=>pure (a.tmps.getD t undef)
 | .cell b t=>do loadVar t (<-asAddr (a.tmps.getD b undef))
def RV (P:Program) (n:fT) (w0:World) (E:Env) (H:af) (r:ResultVar) (v:Value):Prop:=∀a w,fV n E a->Sat w0 w H->(kT r a).run P w= .ok v w
theorem bh {t v} (h:E.get t=some v):RV P n w0 E H (.tmp t) v:=λa w s hs=>by
 show Result.ok (a.tmps.getD t undef) w=_;rw[s.get t v h]
theorem aS {b g off size:Nat} {t bt:TypeId} {cs vs:List Value} (hx:E.get b=some (ptr g off)) (hl:v7 H g bt cs F) (ht:mN P t size) (hv:Dq cs off size=some vs):RV P n w0 E H (.cell b t) (.agg vs.toArray):=λa w s hs=>by
 obtain⟨hle,Mt⟩:=yh hv;have hlen:vs.length=size:=by rw[Mt];simp;omega
 have hc:∀j u,vs[j]? =some u->w.cell? ((⟨g,off,none⟩:Addr).add j)=some u:=λj u hu=>by
  exact pbf
 have hd:=ht.ok;obtain⟨dd,sX⟩:∃dd,P.underlying t=some dd:=by
  exact pao
 rw[sX]at hd;have tJ:(isAgg t).run P w= .ok true w:=by
  exact paI
 obtain⟨i,hi,uZ⟩:=AU.1 ht.size;have hz:(sizeOf t).run P w= .ok size w:=by simp[sizeOf,typeInfo,hi,uZ]
 have hr:=run_loadCells_list (P:=P) (w:=w) ⟨g,off,none⟩ vs hc;rw[hlen]at hr;show(do loadVar t (<-asAddr (a.tmps.getD b undef)):Sem Value).run P w=_;rw[s.get b _ hx];simp[asAddr,loadVar,tJ,hz,hr]
theorem BF {b g off:Nat} {t bt:TypeId} {cs:List Value} {v:Value} (hx:E.get b=some (ptr g off)) (hl:v7 H g bt cs F) (ht:fi P t) (hv:AH cs off=some v):RV P n w0 E H (.cell b t) v:=λa w s hs=>by
 have h:=ca (P:=P) (n:=n) (w0:=w0) (H:=H) (x:= .tmp b) (d:=none) (ty:=0) (pos:= "") (after:= #[]) (gu:=none) (t:=t) hx hl ht hv a w s hs;show(do loadVar t (<-asAddr (a.tmps.getD b undef)):Sem Value).run P w=_;rw[s.get b _ hx];have he:a.eval (.tmp b)=ptr g off:=s.get b _ hx;simp only[execOp,he,Instr.loadAt,Instr.sureAddr,Sem.run_bind,Sem.run_pure,Result.andThen_ok]at h;cases hr:(loadVar t ⟨g,off,none⟩).run P w with
 |ok u w'=>
  rw[hr]at h;simp only[Result.andThen_ok,Sem.run_pure]at h;cases h;simp[asAddr,hr]
 |halt x w'=>rw[hr]at h;cases h
theorem zO {fn:Func} {r} {a:Act} {w v} (hr:fn.results= #[r]) (h:(kT r a).run P w= .ok v w):(results fn a.tmps).run P w= .ok v w:=by
 have e:results fn a.tmps=kT r a:=by
  unfold results;rw[hr];cases r<;>simp[kT]
 rw[e,h]
theorem zP {fn:Func} {r r2} {a:Act} {w v v2} (hr:fn.results= #[r,r2]) (h:(kT r a).run P w= .ok v w) (h2:(kT r2 a).run P w= .ok v2 w):(results fn a.tmps).run P w= .ok (.tuple #[v,v2]) w:=by
 have e:results fn a.tmps=(do let v<-kT r a;let v2<-kT r2 a;pure (.tuple #[v,v2])):=by
  unfold results;rw[hr];cases r<;>cases r2<;>simp[kT]
 rw[e];simp only[Sem.run_bind,h,h2,Result.andThen_ok,Sem.run_pure]
theorem H8 {fn:Func} {r r2 r3} {a:Act} {w v v2 v3} (hr:fn.results= #[r,r2,r3]) (h:(kT r a).run P w= .ok v w) (h2:(kT r2 a).run P w= .ok v2 w) (h3:(kT r3 a).run P w= .ok v3 w):(results fn a.tmps).run P w= .ok (.tuple #[v,v2,v3]) w:=by
 have e:results fn a.tmps=(do let v<-kT r a;let v2<-kT r2 a;let v3<-kT r3 a;pure (.tuple #[v,v2,v3])):=by
  unfold results;rw[hr];cases r<;>cases r2<;>cases r3<;>simp[kT]
 rw[e];simp only[Sem.run_bind,h,h2,h3,Result.andThen_ok,Sem.run_pure]
section
variable {fn:Func} {R:Value->af->Prop} {r r2 r3:ResultVar} {v v2 v3:Value}
theorem gD {e:Exit} (he:e= .ret\/e= .normal) (hr:fn.results= #[r]) (h1:RV P n w0 E H r v) (h:R v H):Bf P n w0 fn R e ⟨E,[],H⟩:=by
 rcases he with rfl|rfl<;>exact⟨rfl,v,λa w g=>zO hr (h1 a w g.dQ g.sat),h⟩
theorem dF {e:Exit} (he:e= .ret\/e= .normal) (hr:fn.results= #[r,r2]) (h1:RV P n w0 E H r v) (h2:RV P n w0 E H r2 v2) (h:R (.tuple #[v,v2]) H):Bf P n w0 fn R e ⟨E,[],H⟩:=by
 rcases he with rfl|rfl<;>exact⟨rfl,_,λa w g=>zP hr (h1 a w g.dQ g.sat) (h2 a w g.dQ g.sat),h⟩
theorem qm {e:Exit} (he:e= .ret\/e= .normal) (hr:fn.results= #[r,r2,r3]) (h1:RV P n w0 E H r v) (h2:RV P n w0 E H r2 v2) (h3:RV P n w0 E H r3 v3) (h:R (.tuple #[v,v2,v3]) H):Bf P n w0 fn R e ⟨E,[],H⟩:=by
 rcases he with rfl|rfl<;>exact⟨rfl,_,λa w g=>H8 hr (h1 a w g.dQ g.sat) (h2 a w g.dQ g.sat) (h3 a w g.dQ g.sat),h⟩
end
theorem mw (H) {α} (size f):eX w0 H (.slice none 0 0) α size f []:=⟨λw hs=>⟨⟨none,0,rfl,uau _,uau _⟩,λk hk=>by simp at hk⟩⟩
end
section
open Go.RowKit
variable {P:Program} {n:fT} {w0:World} {E:Env} {D:List Deferred} {H F F2 R:af} {ops:Array Oper} {l':List Oper} {Q:Exit->St->Prop} {w:World}
def di (v:Value) (k:Nat):Value:=match v with
 | .slice A m c=> .slice A (min k m) c
 |v=>v
def cq (size:Nat) (v:Value) (k:Nat):Value:=match v with
 | .slice A m c=>sliced A (min k m) m c size
 |v=>v
section
variable {α:Type} {e:TypeId} {size:Nat} {f:α->List Value} {v:Value} {l:List α}
theorem ix.head (h:ix w size f v l) (k):ix w size f (di v k) (l.take k):=by
 obtain⟨A,c,rfl,h1,h2⟩:=h.form;refine⟨⟨A,c,by simp[di,Aw],by simp;omega,h2⟩,λj hj=> ?_⟩;have qF:j<l.length:=by simp at hj;omega
 obtain⟨g,off,cap,hv,hc⟩:=h.cell j qF;injection hv with e1 e2 e3
 subst e1;refine⟨g,off,c,by simp[di,Aw],λi u hi hu=>hc i u hi ?_⟩;simpa using hu
theorem ix.tail (h:ix w size f v l) (k):ix w size f (cq size v k) (l.drop k):=by
 obtain⟨A,c,rfl,h1,h2⟩:=h.form;refine⟨⟨_,_,by simp only[cq,sliced];congr 1;simp;omega,by simp;omega,by omega⟩,λj hj=> ?_⟩;have qF:k+j<l.length:=by simp at hj;omega
 obtain⟨g,off,cap,hv,hc⟩:=h.cell (k+j) qF;injection hv with e1 e2 e3
 subst e1;have xl:min k l.length=k:=by omega
 refine⟨g,off+k*size,c - k,?_,λi u hi hu=> ?_⟩
 ·simp only[cq,sliced,xl];rw[eQ (by omega)];simp[add_lit]
 ·have:=hc i u hi (by simpa using hu);rwa[uat,uba (k*size),<-uba off]at this
instance Sc (k:Nat) [h:eX w0 H v α size f l]:eX w0 H (di v k) α size f (l.take k):=⟨λw hs=>(h.at_ w hs).head k⟩
instance zN (k:Nat) [h:eX w0 H v α size f l]:eX w0 H (cq size v k) α size f (l.drop k):=⟨λw hs=>(h.at_ w hs).tail k⟩
variable {d:Option Tmp} {ty:TypeId} {pos:String} {after:Array Edge} {gu:Option (Nat×Bool)} {x y z:Operand}
theorem dv {t e2:TypeId} {q:IntKind} {i:Int} {k:Nat} (hx:E.ev x=some v) (hy:E.ev y=some (.int q i)) (hl:eX w0 H v α size f l) (ht:eN P t (.slice e2)) (fP:GL P e2 size) (hi:fB i k) (hk:k<=l.length):
 OpQ P n w0 ⟨d,.slice t x none (some y) none,ty,pos,after,gu⟩ E H (di v k):=λa w s hs=>by
 obtain⟨A,c,rfl,h1,h2⟩:=(hl.at_ w hs).form
 obtain⟨i0,uY,zq⟩:=AU.1 fP.eq
 obtain rfl:=hi.eq
 have FW:P.elem t=e2:=by simp[Program.elem,ht.eq]
 have xq:P.underlying t=some (.slice (P.elem t)):=by rw[ht.eq,FW]
 have hr:=run_slice_h (P:=P) (w:=w) t A l.length c xq q (k:Int) (by omega) (by omega)
 have xl:min k l.length=k:=by omega
 have hz:(sizeOf e2).run P w= .ok size w:=by simp[sizeOf,typeInfo,uY,zq]
 rw[FW,hz]at hr
 have hA:(if c=0 then A else A.map (·.add (0*size)))=A:=by
  exact pbG
 simp only[execOp,s.ev hx,s.ev hy,EL,uag,run_sliceAt_slice w t _ _ _ _ xq,Sem.run_bind,hr,Result.andThen_ok,Sem.run_pure,D3,di,xl,sliced,hA,uck]
theorem cW {t e2:TypeId} {q:IntKind} {i:Int} {k:Nat} (hx:E.ev x=some v) (hy:E.ev y=some (.int q i)) (hl:eX w0 H v α size f l) (ht:eN P t (.slice e2)) (fP:GL P e2 size) (hi:fB i k) (hk:k<=l.length):
 OpQ P n w0 ⟨d,.slice t x (some y) none none,ty,pos,after,gu⟩ E H (cq size v k):=λa w s hs=>by
 obtain⟨A,c,rfl,h1,h2⟩:=(hl.at_ w hs).form
 obtain⟨i0,uY,zq⟩:=AU.1 fP.eq
 obtain rfl:=hi.eq
 have FW:P.elem t=e2:=by simp[Program.elem,ht.eq]
 have xq:P.underlying t=some (.slice (P.elem t)):=by rw[ht.eq,FW]
 have hr:=run_slice_l (P:=P) (w:=w) t A l.length c xq q (k:Int) (by omega) (by omega)
 have xl:min k l.length=k:=by omega
 have hz:(sizeOf e2).run P w= .ok size w:=by simp[sizeOf,typeInfo,uY,zq]
 rw[FW,hz]at hr
 simp only[execOp,s.ev hx,s.ev hy,EL,uag,run_sliceAt_slice w t _ _ _ _ xq,Sem.run_bind,hr,Result.andThen_ok,Sem.run_pure,D3,cq,xl]
theorem aq.Nc (k) [h:dD H v α e size f l F] [hf:cY f size]:aq H (rows e size f (di v k) (l.take k)*F):=by
 rw[h.eq];refine aq.star (λx hx=>⟨x,?_,λ_ _ e=>e⟩) (aq.refl _);obtain⟨hlen,hc⟩:=hx;refine⟨bZ f size hf.eq _,?_⟩;have hle:min k l.length<=l.length:=Nat.min_le_right _ _;rcases hc with ⟨A,rfl,h0,hn⟩|⟨g,off,cap,cur,fr,rfl,h1,h2,h3,h4,h5,h6⟩
 ·left;exact⟨A,by simp[di],by rw[Aw];omega,hn⟩
 ·right;refine⟨g,off,cap,cur,fr,by simp[di,Aw],by simp;omega,h2,h3,?_,h5,h6⟩;have hm:min k l.length*size<=l.length*size:=VB _ hle;have e1:∀(k:Nat) (l:List α),(l.take k).flatMap f=(l.flatMap f).take (min k l.length*size):=by
   intro k l;induction l generalizing k with
   |nil=>simp
   |cons a l ih=>
    cases k with
    |zero=>simp
    |succ k=>
     have:min (k+1) (a::l).length*size=(f a).length+min k l.length*size:=by
      rw[hf.eq,Pr,show min (k+1) (l.length+1)=min k l.length+1 by omega,uar];omega
     simp only[List.take_succ_cons,RM,ih,this,ua5]
  rw[e1,<-h4,ubd,Aw,ubs hm]
theorem aq.NP (k) (hk:k<=l.length) [h:dD H v α e size f l F] [hf:cY f size]:aq H (rows e size f (cq size v k) (l.drop k)*F):=by
 rw[h.eq];refine aq.star (λx hx=> ?_) (aq.refl _);obtain⟨hlen,hc⟩:=hx;rcases hc with ⟨A,rfl,h0,hn⟩|⟨g,off,cap,cur,fr,rfl,h1,h2,h3,h4,h5,h6⟩
 ·refine⟨x,⟨bZ f size hf.eq _,.inl ⟨A,by simp[cq,sliced],by simp;omega,hn⟩⟩,λ_ _ e=>e⟩
 ·have xl:min k l.length=k:=by omega
  have QZ:∀(k:Nat) (l:List α),k<=l.length->(l.drop k).flatMap f=(l.flatMap f).drop (k*size):=by
   intro k l hk;induction l generalizing k with
   |nil=>simp
   |cons a l ih=>
    cases k with
    |zero=>simp
    |succ k=>
     have:(k+1)*size=(f a).length+k*size:=by rw[hf.eq,uar];omega
     simp only[List.drop_succ_cons,RM,ih k (by simpa using hk),this,ua6]
  by_cases QS:cap=k
  ·refine⟨λ_=>none,⟨bZ f size hf.eq _,.inl ⟨some ⟨g,off,none⟩,?_,by simp;omega,λ_=>rfl⟩⟩,λ_ _ e=>by cases e⟩;simp only[cq,sliced,xl];rw[jF QS];congr 1<;>omega
  ·refine⟨x,⟨bZ f size hf.eq _,.inr ⟨g,off+k*size,cap - k,cur,fr,?_,by simp;omega,by omega,?_,?_,?_,h6⟩⟩,λ_ _ e=>e⟩
   ·simp only[cq,sliced,xl];rw[eQ QS];simp[add_lit]
   ·have:(cap - k)*size=cap*size - k*size:=Nat.sub_mul _ _ _;have:k*size<=cap*size:=VB _ (by omega);omega
   ·rw[QZ k l hk,<-h4,ub4,uax,uK,Nat.sub_mul]
   ·intro i zq uZ;have:(cap - k)*size=cap*size - k*size:=Nat.sub_mul _ _ _;have:k*size<=cap*size:=VB _ (by omega);exact h5 i (by omega) (by omega)
theorem jl {c} (v) (hl:dD H v α e size f l F) (h:∀A cap,v= .slice A l.length cap->WS P n w0 c Q ⟨E,D,H⟩):WS P n w0 c Q ⟨E,D,H⟩:=λa w g=>by
 obtain⟨A,cap,hv⟩:=gz (g.sat.cast hl.eq);exact h A cap hv a w g
theorem pj (v) (hl:dD H v α e size f l F) (h:∀A cap,v= .slice A l.length cap->LS P n w0 ops Q l' ⟨E,D,H⟩):LS P n w0 ops Q l' ⟨E,D,H⟩:=λa w g=>by
 obtain⟨A,cap,hv⟩:=gz (g.sat.cast hl.eq);exact h A cap hv a w g
theorem FE {c:Code} (v:Value) (hl:dD H v α e size f l F) (hf:cY f size) (hp:Nat.blt 0 size=true) (hk:0<l.length) (h:∀g off cap,v= .slice (some ⟨g,off,none⟩) l.length cap->WS P n w0 c Q ⟨E,D,H⟩):WS P n w0 c Q ⟨E,D,H⟩:=λa w g=>by
 obtain⟨g',off,cap,hv,_⟩:=pP (by simpa using hp) (g.sat.cast hl.eq) hk;exact h g' off cap hv a w g
theorem BC {t e2:TypeId} {q:IntKind} {i:Int} {k m g off cap:Nat} (hx:E.ev x=some (.slice (some ⟨g,off,none⟩) m cap)) (hy:E.ev y=some (.int q i)) (ht:eN P t (.slice e2)) (fP:GL P e2 size) (hi:fB i k) (hk:k<m):
 OpQ P n w0 ⟨d,.indexAddr t x y,ty,pos,after,gu⟩ E H (pX (.slice (some ⟨g,off,none⟩) m cap) size k 0):=λa w s hs=>by
 obtain⟨i0,uY,zq⟩:=AU.1 fP.eq
 obtain rfl:=hi.eq
 have FW:P.elem t=e2:=by simp[Program.elem,ht.eq]
 have h:=run_indexAt_slice (P:=P) w t ⟨g,off,none⟩ m cap q (k:Int) (by rw[ht.eq,FW])
 rw[jF ⟨by omega,by omega⟩,FW]at h
 simp[execOp,s.ev hx,s.ev hy,h,sizeOf,typeInfo,uY,zq,pX]
end
instance R6 (H A B F1 F:af) [h1:Own H A F1] [h2:Own F1 B F]:Own H (A*B) F:=⟨by rw[h1.eq,h2.eq,ad]⟩
instance PS (i j:Int) (k m:Nat) [a:fB i k] [b:fB j m]:fB (i*j) (k*m):=⟨by rw[a.eq,b.eq];simp⟩
instance Pe (g:Nat) (t:TypeId) (cs:List Value):v7 (aK g t cs) g t cs emp:=⟨b5.symm⟩
instance NF {α:Type} (e:TypeId) (size:Nat) (f:α->List Value) (v:Value) (l:List α):dD (rows e size f v l) v α e size f l emp:=⟨b5.symm⟩
instance Pm {κ ν:Type} (fk:κ->Value) (fv:ν->Value) (r:Nat) (m:List (κ×ν)):jQ (mp fk fv r m) r κ ν fk fv m emp:=⟨b5.symm⟩
class yr (v:Value):Prop where ok:v.oneCell'=true
class One (w0:World) (H:af) (v:Value):Prop where ok:∀w,Sat w0 w H->v.oneCell'=true
instance Wy {v:Value} [h:yr v]:One w0 H v:=⟨λ_ _=>h.ok⟩
instance {k:IntKind} {m:Int}:yr (.int k m):=⟨rfl⟩
instance {b:Bool}:yr (.bool b):=⟨rfl⟩
instance {b:ByteArray}:yr (.string b):=⟨rfl⟩
instance {a:Option Addr}:yr (.pointer a):=⟨rfl⟩
instance {a:Option Addr} {m c:Nat}:yr (.slice a m c):=⟨rfl⟩
instance {m:Option Nat}:yr (.map m):=⟨rfl⟩
instance {f:Fn} {a b:Array Value}:yr (.func f a b):=⟨rfl⟩
instance {x:UInt32}:yr (u32 x):=⟨rfl⟩
instance {x:UInt64}:yr (u64 x):=⟨rfl⟩
instance (priority:=low) Tg {α:Type} {size:Nat} {f:α->List Value} {v:Value} {l:List α} [h:eX w0 H v α size f l]:One w0 H v:=⟨λw hs=>by
 obtain⟨A,c,rfl,_⟩:=(h.at_ w hs).form;rfl⟩
class LO (w0:World) (H:af) (vs:List Value):Prop where ok:∀w,Sat w0 w H->∀u∈vs,u.oneCell'=true
instance RY:LO w0 H []:=⟨λ_ _ u hu=>by cases hu⟩
instance Qk {v:Value} {vs:List Value} [h1:One w0 H v] [h2:LO w0 H vs]:LO w0 H (v::vs):=⟨λw hs u hu=>by
 rcases JA.1 hu with rfl|hu
 ·exact h1.ok w hs
 ·exact h2.ok w hs u hu⟩
theorem cn.whole {o:Oper} {α} {v:α->Value} {post} (h:∀G a w (K:Act->World->Prop) (Q:Exit->Act->World->Prop),fV n E a->Sat w0 w (H*G)->(∀x w',Sat w0 w' (post x*G)->K (a.put o.dst (v x)) w')->o.wp P a w K Q):cn P n w0 o E H v post:=
 ⟨H,post,emp,h,b5.symm,λ_=>b5.symm⟩
section
variable {ty:TypeId} {pos:String} {after:Array Edge} {gu:Option (Nat×Bool)} {x y:Operand} {v:Value}
theorem IN {t bt:TypeId} {g off:Nat} {cs nv:List Value} (hx:E.ev x=some (ptr g off)) (hy:E.ev y=some v) (ht:fi P t) (h1:One w0 H v) (hl:v7 H g bt cs F) (tM:iW cs off [v]=some nv):
 cn P n w0 ⟨none,.store t x y,ty,pos,after,gu⟩ E H (λ_:Unit=>undef) (λ_=>aK g bt nv*F):=cn.whole λG a w K Q s hs hK=>by
 have xc:=h1.ok w hs.Cq
 have eI:Sat w0 w (aK g bt cs*(F*G)):=hs.cast (by rw[hl.eq,ad])
 obtain⟨w',hr,OY⟩:=iP (P:=P) (t:=t) (vs:=[v]) w eI ht.size (cells_one xc) (by simpa using xc) tM
 have:=hK () w' (OY.cast (ad _ _ _).symm)
 simp only[Act.put]at this
 simp only[Oper.wp,execOp,s.ev hx,s.ev hy,Instr.storeAt,Instr.sureAddr,Sem.run_bind,Sem.run_pure,Result.andThen_ok,hr,Oper.upon_skip]
 exact this
theorem GG {t bt:TypeId} {g off:Nat} {cs nv vs:List Value} (hx:E.ev x=some (ptr g off)) (hy:E.ev y=some (.agg vs.toArray)) (ht:mN P t vs.length) (hl:v7 H g bt cs F) (h1:LO w0 H vs) (tM:iW cs off vs=some nv):
 cn P n w0 ⟨none,.store t x y,ty,pos,after,gu⟩ E H (λ_:Unit=>undef) (λ_=>aK g bt nv*F):=cn.whole λG a w K Q s hs hK=>by
 have xc:=h1.ok w hs.Cq
 have eI:Sat w0 w (aK g bt cs*(F*G)):=hs.cast (by rw[hl.eq,ad])
 obtain⟨w',hr,OY⟩:=iP (P:=P) (t:=t) (vs:=vs) (val:= .agg vs.toArray) w eI ht.size rfl xc tM
 have:=hK () w' (OY.cast (ad _ _ _).symm)
 simp only[Act.put]at this
 simp only[Oper.wp,execOp,s.ev hx,s.ev hy,Instr.storeAt,Instr.sureAddr,Sem.run_bind,Sem.run_pure,Result.andThen_ok,hr,Oper.upon_skip]
 exact this
theorem NS {d t} (hx:E.ev x=some v) (h1:One w0 H v):cn P n w0 ⟨d,.box t x,ty,pos,after,gu⟩ E H (λg=>ptr g 0) (λg=>aK g t [v]*H):=cn.whole λG a w K Q s hs hK=>by
 have hc:v.cells=[v].toArray:=cells_one (h1.ok w hs.Cq);have hr:(execOp a.eval ⟨d,.box t x,ty,pos,after,gu⟩).run P w= .ok (.value (ptr w.heap.size 0)) (w.alloc (.cells [v].toArray t)):=by
  simp[execOp,s.ev hx,Instr.box,newVar,newRow,hc]
 unfold Oper.wp;rw[hr];exact hK w.heap.size _ ((hs.new t [v].toArray).cast (ad _ _ _).symm)
end
theorem iU {α} {p:α->af} {c} (h:∀x,WS P n w0 c Q ⟨E,D,p x*F⟩):WS P n w0 c Q ⟨E,D,hex p*F⟩:=λa w g=>by
 obtain⟨x,hx⟩:=g.sat.ex;exact h x a w ⟨g.dQ,g.defers,hx⟩
theorem DD {α} {p:α->af} (h:∀x,LS P n w0 ops Q l' ⟨E,D,p x*F⟩):LS P n w0 ops Q l' ⟨E,D,hex p*F⟩:=λa w g=>by
 obtain⟨x,hx⟩:=g.sat.ex;exact h x a w ⟨g.dQ,g.defers,hx⟩
theorem jR {φ c} (h:φ->WS P n w0 c Q ⟨E,D,F⟩):WS P n w0 c Q ⟨E,D,pure' φ*F⟩:=λa w g=>by
 obtain⟨hf,hs⟩:=g.sat.pure;exact h hf a w ⟨g.dQ,g.defers,hs⟩
theorem aq.qA {α} {p:α->af} (x):aq (p x*F) (hex p*F):=λh ⟨a,b,hd,e,hp,hq⟩=>⟨h,⟨a,b,hd,e,⟨x,hp⟩,hq⟩,λ_ _ e=>e⟩
theorem aq.vW {φ} (hf:φ):aq F (pure' φ*F):=λh hh=>⟨h,ki.2 ⟨hf,hh⟩,λ_ _ e=>e⟩
theorem Spec.zbB {α β:Type} {f:FuncId} {args:List Value} {pre Sa:af} {res:α->Value} {post:α->af} {Db:β->Value} {mr:β->af} (h:Spec P w0 f args pre res post) (hp:aq Sa pre) (hw:∀x,∃y,res x=Db y/\aq (post x) (mr y)):Spec P w0 f args Sa Db mr:=λG w hs=>
 (h G w ((aq.star hp (aq.refl G)).sat hs)).mono λe w' ⟨x,hx,eI⟩=>by
  obtain⟨y,e1,e2⟩:=hw x;exact⟨y,by rw[hx,e1],(aq.star e2 (aq.refl G)).sat eI⟩
section
variable {d:Option Tmp} {ty:TypeId} {pos:String} {after:Array Edge} {gu:Option (Nat×Bool)} {x y:Operand}
theorem zeJ {α:Type} (f:α->List Value) (z0:α) {t e:TypeId} {size bytes m:Nat} {z:Value} {zs:List Value} {q q':IntKind} (hx:E.ev x=some (.int q (m:Int))) (hy:E.ev y=some (.int q' (m:Int))) (hT:lj P t e size bytes) (hz:Zero P e z zs) (hf:cY f size) (Kg:zs=f z0) (rX:Nat.blt 0 size=true) (hm:m<=1000000) (uX:Nat.ble bytes 1000=true):
 cn P n w0 ⟨d,.makeSlice t x y,ty,pos,after,gu⟩ E H (λv':Value=>v') (λv'=>rows e size f v' (List.replicate m z0)*H):=by
 obtain⟨i,z',hi,zfI,rZ,hbt,_⟩:=hT.out.info
 obtain⟨i',OD,XL⟩:=AU.1 hz.eq
 rw[hi]at OD;cases OD
 rw[XL]at zfI;cases zfI
 have Nk:0<size:=by simpa using rX
 have zgi:bytes<=1000:=Yu uX
 have hbm:(i.bytes:Int)*(m:Int)<=281474976710656:=by
  rw[hbt];have:bytes*m<=1000*1000000:=ucs zgi hm;have e:((bytes*m:Nat):Int)=(bytes:Int)*(m:Int):=by simp
  omega
 have hlen:zs.length=size:=by rw[Kg];exact hf.eq z0
 have hc:z.cells=zs.toArray:=by rw[gX,hz.cells]
 have zfv:madeCells z.cells (m*size)=((List.replicate m z0).flatMap f).toArray:=by
  have hr:∀k,(List.replicate k z0).flatMap f=j4 zs k:=by
   intro k;induction k with
   |zero=>rfl
   |succ k ih=>rw[List.replicate_succ,RM,ih,Kg];rfl
  rw[hr,hc];apply ubw;apply zD;intro j;by_cases hj:j<m*size
  ·rw[ubl,yk zs m j (by rw[hlen];exact hj)];have hm:j % zs.length<zs.length:=ubT _ (by omega);simp[madeCells,hj,hm]
  ·rw[EJ (by simpa [madeCells]using hj),EJ (by rw[ubl,pf,hlen];omega)]
 refine(Fy (f:=λg=> .slice (some ⟨g,0,none⟩) m m) (t:=e) (cs:=(List.replicate m z0).flatMap f) λa w s=> ?_).zbB λg=>⟨_,rfl,aq.Dc (List.replicate m z0) rfl (by simp) hm⟩
 have h:=run_make (P:=P) w t e i z hT.out.ht hi XL q q' m m (by omega) (by omega) hbm (by omega)
 simp only[D3,rZ,zfv]at h
 simp only[execOp,s.ev hx,s.ev hy,Sem.run_bind,h,Result.andThen_ok,Sem.run_pure]
theorem fq {α:Type} (f:α->List Value) {t e:TypeId} {size:Nat} (ht:eN P t (.slice e)) (hs:GL P e size):
 cn P n w0 ⟨d,.buildSlice t 0 #[],ty,pos,after,gu⟩ E H (λv':Value=>v') (λv'=>rows e size f v' []*H):=
 (yq ht hs).zbB λg=>⟨_,rfl,(aq.drop _ _).trans (aq.nil _ _ _ _ _)⟩
theorem au {α:Type} (f:α->List Value) (ys:List α) {t e:TypeId} {len size:Nat} {parts:List (Nat×Operand)} {vs:List (Nat×Value)} {z:Value} {zs cs:List Value} (ht:eN P t (.slice e)) (hz:Zero P e z zs) (hs:GL P e size) (hl:Nat.beq zs.length size=true) (Ru:Nat.ble (len*size) 16777216=true) (rX:Nat.blt 0 (len*size)=true) (hv:E.kh parts=some vs) (hb:Od size (j4 zs len) vs=some cs) (hf:cY f size) (hc:cs=ys.flatMap f) (hm:ys.length=len) (Hk:Nat.ble len 1000000=true):
 cn P n w0 ⟨d,.buildSlice t len parts.toArray,ty,pos,after,gu⟩ E H (λv':Value=>v') (λv'=>rows e size f v' ys*H):=
 (rl ht hz hs hl Ru rX hv hb).zbB λg=>⟨_,rfl,aq.Dc ys hc hm (Yu Hk)⟩
end
theorem aq.Pu {α:Type} {e:TypeId} {size:Nat} {f:α->List Value} {A:Option Addr} {F':af} (r:aq H F'):aq H (rows e size f (.slice A 0 0) []*F'):=r.trans (aq.nil _ _ _ _ _)
theorem dH {α:Type} {t e:TypeId} {size bytes:Nat} {f f':α->List Value} {v u:Value} {l ys:List α} {d:Option Tmp} {ty:TypeId} {pos:String} {after:Array Edge} {gu:Option (Nat×Bool)} {x y:Operand} (X:af) (hx:E.ev x=some v) (hy:E.ev y=some u) (hl:dD H v α e size f l F) (hX:eX w0 X u α size f' ys) (hF:Own F X F2) (Hj:f'=f) (hT:lj P t e size bytes) (hf:cY f size) (h1:∀z,∀c∈f z,c.oneCell'=true) (hn:l.length+ys.length<=1000000) (uX:Nat.ble bytes 1000=true):
 cn P n w0 ⟨d,.call ⟨.builtin .append,#[x,y],#[t,t]⟩,ty,pos,after,gu⟩ E H (λv':Value=>v') (λv'=>rows e size f v' (l++ys)*(X*F2)):=GF X hx hy hl hX hF.eq Hj hT hf h1 hn uX
def JL:List Oper->Nat->Option Oper
 |[],_=>none
 |o::_,0=>some o
 |_::r,i+1=>JL r i
def jK (l:List Oper):List Nat->Option (List Oper)
 |[]=>some []
 |i::r=>match JL l i,jK l r with
  |some o,some r'=>some (o::r')
  |_,_=>none
theorem FQ:∀(l:List Oper) (i:Nat),JL l i=l[i]?
 |[],i=>by simp[JL]
 |o::r,0=>rfl
 |o::r,i+1=>by simp[JL,FQ r i]
theorem gO {l:List Oper}:∀{idx:List Nat} {l':List Oper},jK l idx=some l'->idx.map (l[·]?)=l'.map some
 |[],_,h=>by cases h;rfl
 |i::r,l',h=>by
  simp only[jK,FQ]at h;split at h
  ·rename_i o r' h1 h2;cases h;simp[h1,gO h2]
  ·cases h
theorem BI {l l':List Oper} {id} (idx) (hs:iT P l idx (λ_=>false) 1000=true) (hl:jK l idx=some l') (h:DL P n w0 l.toArray Q D H emp (λ_=>false) 1000 0 false l' E emp):WS P n w0 (.region id l.toArray true) Q ⟨E,D,H⟩:=
 iK idx l' H emp emp _ 1000 hs (by rw[aB,b5]) (gO hl) h
theorem ag {l l':List Oper} {id:Nat} (idx:List Nat) (h:DL P n w0 l.toArray Q D H emp (λ_=>false) 1000 0 false l' E emp) (hs:iT P l idx (λ_=>false) 1000=true:=by decide+kernel) (hl:jK l idx=some l':=by rfl):WS P n w0 (.region id l.toArray true) Q ⟨E,D,H⟩:=BI idx hs hl h
def yA (bs:List Nat) (k:Nat):Bool:=bs.any (Nat.beq k)
theorem I6 {l l':List Oper} {id} (idx cp bs) (hs:iT P l idx (yA bs) cp=true) (hl:jK l idx=some l') (h:DL P n w0 l.toArray Q D emp H (yA bs) cp 0 false l' E emp):WS P n w0 (.region id l.toArray true) Q ⟨E,D,H⟩:=
 iK idx l' emp H emp _ cp hs (by rw[b5,aB]) (gO hl) h
theorem ae {l l':List Oper} {id:Nat} (idx:List Nat) (cp:Nat) (bs:List Nat) (h:DL P n w0 l.toArray Q D emp H (yA bs) cp 0 false l' E emp) (hs:iT P l idx (yA bs) cp=true:=by decide+kernel) (hl:jK l idx=some l':=by rfl):WS P n w0 (.region id l.toArray true) Q ⟨E,D,H⟩:=I6 idx cp bs hs hl h
theorem LH {L B k cp} (h:Q .normal ⟨E,D,R*F⟩):DL P n w0 ops Q D R L B cp k true [] E F:= .nil rfl h
theorem LD {B k cp} (h:Q .normal ⟨E,D,R⟩):DL P n w0 ops Q D R emp B cp k false [] E emp:= .nil (by simp only[hp,Yv];rw[aB,b5]) h
theorem Bx {f:FuncId} {args:List Value} {v:Value} {d:Nat} {xs:List Operand} {ts:Array TypeId} {ty:TypeId} {pos:String} {after:Array Edge} {B:Nat->Bool} {L:af} {k cp:Nat} {c:Bool} {l:List Oper} (hf:aA P f) (eB:E.mU xs=some args) (spec:Spec P w0 f args R (λ_:Unit=>v) (λ_=>R)) (hd:Nat.blt d n.tmps=true)
 (h:DL P n w0 ops Q D R L B cp (k+1) c l ((d,v)::E) F):DL P n w0 ops Q D R L B cp k c (⟨some d,.call ⟨.value (.func f),xs.toArray,ts⟩,ty,pos,after,none⟩::l) E F:=
 M0 rfl rfl hd (λF' a w K Q s hs hK=>by
  have key:∀X,Sat w0 w (R*X)->(∀w',Sat w0 w' (R*X)->K (a.put (some d) v) w')->(⟨some d,.call ⟨.value (.func f),xs.toArray,ts⟩,ty,pos,after,none⟩:Oper).wp P a w K Q:=λX hs hK=>
   wq (d:=some d) (ty:=ty) (pos:=pos) (after:=after) (gu:=none) (ts:=ts) hf eB spec X a w K Q s hs λ_ w' eI=>hK w' eI
  cases c with
  |true=>exact key F' hs hK
  |false=>exact key (L*F') hs hK) h
end
section
structure Pk where
 bK:Int
 kind:Int
 aH:Int
 unknown:Bool
 id:UInt32
 dest:UInt32
 ak:UInt32
 from_:UInt32
 av:UInt32
 bD:UInt32
 lost:List (UInt32×UInt32)
 ar:List UInt8
def Pk.cells (p:Pk) (v:Value):List Value:=
 [.int .i64 p.bK,.int .i64 p.kind,.int .i64 p.aH,.bool p.unknown,u32 p.id,u32 p.dest,u32 p.ak,u32 p.from_,u32 p.av,u32 p.bD,v,aZ p.ar]
def Pk.val (p:Pk) (v:Value):Value:= .agg (p.cells v).toArray
def cM (n:Int):Prop:= -9223372036854775808<=n/\n<=9223372036854775807
structure Pk.Ok (p:Pk):Prop where
 bK:cM p.bK
 kind:cM p.kind
 aH:cM p.aH
 lost:p.lost.length<=100000
 ar:p.ar.length<=100000
def Pk.Fits (p:Pk):Prop:=
 (1<=p.bK/\p.bK<=255/\0<=p.aH/\p.aH<=255/\p.ar.length<=16/\p.lost.length<=8)/\
 ((p.kind=1/\p.bD=0/\p.lost.length=0/\p.ar=[]/\(p.unknown=false\/p.ak=0))\/
  (p.kind=2/\p.unknown=false/\p.av=0/\p.id=0/\p.lost.length=0/\p.ar=[])\/
  (p.kind=3/\p.unknown=false/\p.av=0/\p.aH=0/\p.ak=0/\p.id=0/\p.bD=0/\0<p.lost.length/\p.dest=0/\p.from_=0/\p.ar=[])\/
  (p.kind=9/\p.unknown=false/\p.av=0/\p.aH=0/\p.ak=0/\p.bD=0/\p.lost.length=0))
instance (p:Pk):Decidable p.Fits:=by unfold Pk.Fits;infer_instance
def bB (x:UInt32×UInt32):List Value:=[u32 x.1,u32 x.2]
instance:cY bB 2:=⟨λ_=>rfl⟩
theorem lA:∀z,∀c∈bB z,c.oneCell'=true:=by intro z c hc;simp[bB]at hc;rcases hc with rfl|rfl<;>rfl
def fA (l:List UInt32):List UInt8:=l.flatMap be
def gi (l:List (UInt32×UInt32)):List UInt8:=l.flatMap λx=>be x.1++be x.2
theorem jY (l:List (UInt32×UInt32)):(gi l).length=8*l.length:=by
 induction l with
 |nil=>rfl
 |cons a l ih=>simp[gi,al]at ih ⊢;omega
theorem vg (l:List (UInt32×UInt32)) (k x) (h:l[k]? =some x):gi (l.take (k+1))=gi (l.take k)++be x.1++be x.2:=by
 rw[AP,h];simp[gi]
def Pk.bytes (p:Pk):List UInt8:=
 if p.kind=1 then [b8 p.bK,1,if p.unknown then 8 else 0,0,b8 p.aH]++be p.id++be p.dest++be p.ak++be p.from_++be p.av
 else if p.kind=2 then [b8 p.bK,2,0,0,b8 p.aH]++be p.dest++be p.ak++be p.from_++be p.bD
 else if p.kind=3 then [b8 p.bK,3,0,0,b8 p.lost.length]++gi p.lost
 else [b8 p.bK,9,0,0,b8 p.ar.length]++be p.id++be p.dest++be p.from_++p.ar
end
section
open Go.RowKit
variable {P:Program} {n:fT} {w0:World} {E:Env} {D:List Deferred} {H F F2 R:af} {ops:Array Oper} {l':List Oper} {Q:Exit->St->Prop} {w:World}
class wi (H:af) (φ:outParam Prop) (F:outParam af):Prop where
 eq:H=pure' φ*F
instance NA (φ:Prop) (F:af):wi (pure' φ*F) φ F:=⟨rfl⟩
instance (priority:=low) NB (X H F:af) (φ:Prop) [h:wi X φ F]:wi (X*H) φ (F*H):=⟨by rw[h.eq,ad]⟩
theorem lH {φ:Prop} (hp:wi H φ F) (h:φ->LS P n w0 ops Q l' ⟨E,D,F⟩):LS P n w0 ops Q l' ⟨E,D,H⟩:=λa w g=>by
 obtain⟨h1,h2⟩:=(g.sat.cast hp.eq).pure;exact h h1 a w ⟨g.dQ,g.defers,h2⟩
theorem Ja {φ:Prop} {c:Code} (hp:wi H φ F) (h:φ->WS P n w0 c Q ⟨E,D,F⟩):WS P n w0 c Q ⟨E,D,H⟩:=λa w g=>by
 obtain⟨h1,h2⟩:=(g.sat.cast hp.eq).pure;exact h h1 a w ⟨g.dQ,g.defers,h2⟩
variable {d:Nat} {op:Op} {ty:TypeId} {pos:String} {after:Array Edge} {α:Type} {v:α->Value} {post:α->af}
theorem IP {φ:α->Prop} (h:cn P n w0 ⟨some d,op,ty,pos,after,none⟩ E H v (λx=>(pure' (φ x)*post x)*F)) (hd:Nat.blt d n.tmps=true) (hn:∀x,φ x->LS P n w0 ops Q l' ⟨(d,v x)::E,D,post x*F⟩):LS P n w0 ops Q (⟨some d,op,ty,pos,after,none⟩::l') ⟨E,D,H⟩:=
 ai h hd λx=>lH iI (hn x)
section lookup
variable {κ ν:Type} [DecidableEq κ] {fk:κ->Value} {fv:ν->Value} {r:Nat} {m:List (κ×ν)} {k:κ} {u:ν} {v:Value} {d:Option Tmp} {gu:Option (Nat×Bool)} {x y:Operand} {t kt et:TypeId} {z:Value} {zs:List Value}
theorem fD (hx:E.ev x=some (.map (some r))) (hy:E.ev y=some v) (hl:jQ H r κ ν fk fv m F) (hkk:zaF fk v k) (hm:rp P t kt et) (hz:Zero P et z zs) (hk:ou P kt fk) (he:bX m k=some u):OpQ P n w0 ⟨d,.lookup t x y true,ty,pos,after,gu⟩ E H (.tuple #[fv u,.bool true]):=by
 exact pbl
theorem iJ (hx:E.ev x=some (.map (some r))) (hy:E.ev y=some v) (hl:jQ H r κ ν fk fv m F) (hkk:zaF fk v k) (hm:rp P t kt et) (hz:Zero P et z zs) (hk:ou P kt fk) (he:bX m k=none):OpQ P n w0 ⟨d,.lookup t x y true,ty,pos,after,gu⟩ E H (.tuple #[z,.bool false]):=by
 exact pbl
theorem fw (hx:E.ev x=some (.map (some r))) (hy:E.ev y=some v) (hl:jQ H r κ ν fk fv m F) (hkk:zaF fk v k) (hm:rp P t kt et) (hz:Zero P et z zs) (hk:ou P kt fk) (he:bX m k=some u):OpQ P n w0 ⟨d,.lookup t x y false,ty,pos,after,gu⟩ E H (fv u):=by
 exact pbm
theorem iw (hx:E.ev x=some (.map (some r))) (hy:E.ev y=some v) (hl:jQ H r κ ν fk fv m F) (hkk:zaF fk v k) (hm:rp P t kt et) (hz:Zero P et z zs) (hk:ou P kt fk) (he:bX m k=none):OpQ P n w0 ⟨d,.lookup t x y false,ty,pos,after,gu⟩ E H z:=by
 exact pbm
end lookup
end
section
open Go.RowKit
variable {P:Program} {n:fT} {w0:World} {E:Env} {D:List Deferred} {H F F2 R:af} {ops:Array Oper} {l':List Oper} {Q:Exit->St->Prop} {w:World}
instance Mb {t e:TypeId} {a:Addr} [h:eN P t (.pointer e)]:dL P .eql t (.pointer (some a)) (.pointer none) (.bool false):=⟨λw=>by
 have hp:P.pointee t=e:=by simp[Program.pointee,h.eq]
 have:=run_eql_pointer_nil (w:=w) t (some a) (by rw[hp];exact h.eq);exact this,λw _ _=>by rfl⟩
instance MA {t e:TypeId} {a:Addr} [h:eN P t (.pointer e)]:dL P .neq t (.pointer (some a)) (.pointer none) (.bool true):=⟨λw=>by
 have hp:P.pointee t=e:=by simp[Program.pointee,h.eq]
 have:=run_neq_pointer_nil (w:=w) t (some a) (by rw[hp];exact h.eq);exact this,λw _ _=>by rfl⟩
theorem wx {o b x y} {σ:St} (hc:σ.E.ev o=some (.bool b)) (hl:b=true) (h:WS P n w0 x Q σ):WS P n w0 (.cond o x y) Q σ:=pr hc (λ_=>h) (λe=>by rw[hl]at e;cases e)
theorem wu {o b x y} {σ:St} (hc:σ.E.ev o=some (.bool b)) (hl:b=false) (h:WS P n w0 y Q σ):WS P n w0 (.cond o x y) Q σ:=pr hc (λe=>by rw[hl]at e;cases e) (λ_=>h)
def Z4 (g:Nat):List Value:=[ptr g 0]
instance:cY Z4 1:=⟨λ_=>rfl⟩
theorem zeq:∀z,∀c∈Z4 z,c.oneCell'=true:=by intro z c hc;simp[Z4]at hc;subst hc;rfl
end
section
theorem iM {P:Program} {f:FuncId} {fn:Func} (h:P.funcs[f]? =some fn) (h2:fn.name≠ "runtime.NumGoroutine" :=by decide+kernel) (h3:fn.body.isNone=false:=by exact rfl):aA P f:=⟨_,h,h2,h3⟩
theorem uM {P:Program} {t:TypeId} {d:TypeDesc} (h:P.underlying t=some d:=by kernel_rfl):eN P t d:=⟨h⟩
theorem fM {P:Program} {s k off:Nat} {t:TypeId} (n:Nat) (h:AA P s k=some (off,t,n+1):=by kernel_rfl):eo P s k off t:=⟨n,h⟩
theorem eM {P:Program} {t:TypeId} (h:sG (P.underlying t)=true:=by kernel_rfl) (h2:(P.info? t).map (·.size)=some 1:=by kernel_rfl):fi P t:=⟨h,h2⟩
theorem gM {P:Program} {t:TypeId} {n:Nat} (h:L3 (P.underlying t)=true:=by kernel_rfl) (h2:(P.info? t).map (·.size)=some n:=by kernel_rfl):mN P t n:=⟨h,h2⟩
theorem zM {P:Program} {t:TypeId} {z:Value} {zs:List Value} (h:(P.info? t).map (·.zero)=some (some z):=by kernel_rfl) (h2:jn z=zs:=by exact rfl):Zero P t z zs:=⟨h,h2⟩
theorem cL {P:Program} {n:fT} {w0:World} {ops:Array Oper} {Q:Exit->St->Prop} {D:List Deferred} {l:List Oper} {E:Env} {H X F:af} {d:Tmp} {ty:TypeId} {pos:String} {after:Array Edge} {f:FuncId} {args:List Value} {α:Type} {res:α->Value} {post:α->af} {xs:List Operand} {ts:Array TypeId} (s:Spec P w0 f args X res post) (eB:E.mU xs=some args:=by exact rfl) (hf:aA P f:=by exact iI) (hl:Own H X F:=by(first|exact⟨aB.symm⟩|exact iI)) (hd:Nat.blt d n.tmps=true:=by exact rfl) (hn:∀x,LS P n w0 ops Q l ⟨(d,res x)::E,D,post x*F⟩):LS P n w0 ops Q (⟨some d,.call ⟨.value (.func f),xs.toArray,ts⟩,ty,pos,after,none⟩::l) ⟨E,D,H⟩:=ai (aa hf eB s hl) hd hn
theorem cD {R L:af} {B:Nat->Bool} {cp k:Nat} {c:Bool} {P:Program} {n:fT} {w0:World} {ops:Array Oper} {Q:Exit->St->Prop} {D:List Deferred} {l:List Oper} {E:Env} {H X F:af} {d:Tmp} {ty:TypeId} {pos:String} {after:Array Edge} {f:FuncId} {args:List Value} {α:Type} {res:α->Value} {post:α->af} {xs:List Operand} {ts:Array TypeId} (s:Spec P w0 f args X res post) (eB:E.mU xs=some args:=by exact rfl) (hf:aA P f:=by exact iI) (hl:Own H X F:=by(first|exact⟨aB.symm⟩|exact iI)) (hd:Nat.blt d n.tmps=true:=by exact rfl) (hn:∀x,DL P n w0 ops Q D R L B cp (k+1) c l ((d,res x)::E) (post x*F)):DL P n w0 ops Q D R L B cp k c (⟨some d,.call ⟨.value (.func f),xs.toArray,ts⟩,ty,pos,after,none⟩::l) E H:=aD (aa hf eB s hl) rfl rfl hd hn
theorem cZ {P:Program} {w0:World} {f:FuncId} {args:List Value} {X:af} {α:Type} {res:α->Value} {post:α->af} (s:Spec P w0 f args X res post) {p:Prop} {q:α->Prop} (hq:∀x,q x) (h:Spec P w0 f args X res post->(∀x,q x)->p:=by(intro s;first|exact cL s|exact cD s)):p:=h s hq
theorem eZ {P:Program} {w0:World} {α:Type} {f:FuncId} {fn:Func} {c:Code} {args:List Value} {pre:af} {res:α->Value} {post:α->af} {m:Nat} (hf:P.funcs[f]? =some fn) (hn:fn.ntmps=m) (h:∀G,WS P ⟨m,none⟩ w0 c (Bf P ⟨m,none⟩ w0 fn λv H'=>∃x,v=res x/\aq H' (post x*G)) ⟨aN 0 args,[],pre*G⟩) (hb:fn.body=some c:=by exact rfl) (hle:Nat.ble args.length m=true:=by exact rfl):Spec P w0 f args pre res post:=Spec.enter hf hb hn hle h
instance:fi ucC 1:=eM
instance:eN ucC 2 (.int .i64):=uM
instance:eN ucC 3 (.int .i64):=uM
instance:fi ucC 3:=eM
instance:Zero ucC 3 (.int .i64 0) [(.int .i64 0)]:=zM
instance:eN ucC 4 .bool:=uM
instance:fi ucC 4:=eM
instance:Zero ucC 4 (.bool false) [(.bool false)]:=zM
instance:eN ucC 5 (.int .u8):=uM
instance:fi ucC 5:=eM
instance:Zero ucC 5 (u8 0) [(u8 0)]:=zM
instance:eN ucC 9 .string:=uM
instance:fi ucC 9:=eM
instance:Zero ucC 9 (aZ []) [(aZ [])]:=zM
instance:eN ucC 22 (.slice 28):=uM
instance:fi ucC 22:=eM
instance:lj ucC 22 28 3 12:=⟨yt.of (z:=(.agg #[(.bool false),(u32 0),(u32 0)])) Tryz.underlying22 (by kernel_rfl) rfl (by decide)⟩
instance:eN ucC 23 (.slice 9):=uM
instance:lj ucC 23 9 1 16:=⟨yt.of (z:=(aZ [])) Tryz.underlying23 (by kernel_rfl) rfl (by decide)⟩
instance:Zero ucC 23 (.slice none 0 0) [(.slice none 0 0)]:=zM
instance:eN ucC 24 (.int .u64):=uM
instance:fi ucC 24:=eM
instance:Zero ucC 24 (u64 0) [(u64 0)]:=zM
instance:eN ucC 25 (.slice 5):=uM
instance:fi ucC 25:=eM
instance:lj ucC 25 5 1 1:=⟨yt.of (z:=(u8 0)) Tryz.underlying25 (by kernel_rfl) rfl (by decide)⟩
instance:eN ucC 26 (.int .u32):=uM
instance:fi ucC 26:=eM
instance:Zero ucC 26 (u32 0) [(u32 0)]:=zM
instance:mN ucC 28 3:=gM
instance:Zero ucC 28 (.agg #[(.bool false),(u32 0),(u32 0)]) [(.bool false),(u32 0),(u32 0)]:=zM
instance:eo ucC 28 0 0 4:=fM 0
instance:eo ucC 28 1 1 26:=fM 0
instance:eo ucC 28 2 2 26:=fM 0
instance:ee ucC 28 [(0,1),(1,1),(2,1)]:=⟨by kernel_rfl⟩
instance:eN ucC 31 (.slice 48):=uM
instance:fi ucC 31:=eM
instance:lj ucC 31 48 2 24:=⟨yt.of (z:=(.agg #[(u32 0),(aZ [])])) Tryz.underlying31 (by kernel_rfl) rfl (by decide)⟩
instance:eN ucC 32 (.slice 70):=uM
instance:fi ucC 32:=eM
instance:lj ucC 32 70 2 24:=⟨yt.of (z:=(.agg #[(u32 0),(aZ [])])) Tryz.underlying32 (by kernel_rfl) rfl (by decide)⟩
instance:eN ucC 33 (.slice 166):=uM
instance:fi ucC 33:=eM
instance:lj ucC 33 166 1 8:=⟨yt.of (z:=(.int .i64 0)) Tryz.underlying33 (by kernel_rfl) rfl (by decide)⟩
instance:mN ucC 35 5:=gM
instance:Zero ucC 35 (.agg #[(aZ []),(.bool false),(.slice none 0 0),(.slice none 0 0),(.slice none 0 0)]) [(aZ []),(.bool false),(.slice none 0 0),(.slice none 0 0),(.slice none 0 0)]:=zM
instance:eo ucC 35 0 0 9:=fM 0
instance:eo ucC 35 1 1 4:=fM 0
instance:eo ucC 35 2 2 31:=fM 0
instance:eo ucC 35 3 3 32:=fM 0
instance:eo ucC 35 4 4 33:=fM 0
instance:ee ucC 35 [(0,1),(1,1),(2,1),(3,1),(4,1)]:=⟨by kernel_rfl⟩
instance:fi ucC 36:=eM
instance:eN ucC 41 (.int .i64):=uM
instance:fi ucC 41:=eM
instance:eN ucC 42 (.slice 180):=uM
instance:fi ucC 42:=eM
instance:lj ucC 42 180 2 8:=⟨yt.of (z:=(.agg #[(u32 0),(u32 0)])) Tryz.underlying42 (by kernel_rfl) rfl (by decide)⟩
instance:Zero ucC 42 (.slice none 0 0) [(.slice none 0 0)]:=zM
instance:mN ucC 44 12:=gM
instance:Zero ucC 44 (.agg #[(.int .i64 0),(.int .i64 0),(.int .i64 0),(.bool false),(u32 0),(u32 0),(u32 0),(u32 0),(u32 0),(u32 0),(.slice none 0 0),(aZ [])]) [(.int .i64 0),(.int .i64 0),(.int .i64 0),(.bool false),(u32 0),(u32 0),(u32 0),(u32 0),(u32 0),(u32 0),(.slice none 0 0),(aZ [])]:=zM
instance:eo ucC 44 0 0 3:=fM 0
instance:eo ucC 44 1 1 41:=fM 0
instance:eo ucC 44 2 2 3:=fM 0
instance:eo ucC 44 3 3 4:=fM 0
instance:eo ucC 44 4 4 26:=fM 0
instance:eo ucC 44 5 5 26:=fM 0
instance:eo ucC 44 6 6 26:=fM 0
instance:eo ucC 44 7 7 26:=fM 0
instance:eo ucC 44 8 8 26:=fM 0
instance:eo ucC 44 9 9 26:=fM 0
instance:eo ucC 44 10 10 42:=fM 0
instance:eo ucC 44 11 11 9:=fM 0
instance:ee ucC 44 [(0,1),(1,1),(2,1),(3,1),(4,1),(5,1),(6,1),(7,1),(8,1),(9,1),(10,1),(11,1)]:=⟨by kernel_rfl⟩
instance:mN ucC 48 2:=gM
instance:Zero ucC 48 (.agg #[(u32 0),(aZ [])]) [(u32 0),(aZ [])]:=zM
instance:eo ucC 48 0 0 26:=fM 0
instance:eo ucC 48 1 1 9:=fM 0
instance:ee ucC 48 [(0,1),(1,1)]:=⟨by kernel_rfl⟩
instance:eN ucC 49 (.slice 53):=uM
instance:fi ucC 49:=eM
instance:lj ucC 49 53 7 56:=⟨yt.of (z:=(.agg #[(u32 0),(u32 0),(.int .i64 0),(u32 0),(.bool false),(u64 0),(.slice none 0 0)])) Tryz.underlying49 (by kernel_rfl) rfl (by decide)⟩
instance:Zero ucC 49 (.slice none 0 0) [(.slice none 0 0)]:=zM
instance:eN ucC 51 (.slice 26):=uM
instance:fi ucC 51:=eM
instance:lj ucC 51 26 1 4:=⟨yt.of (z:=(u32 0)) Tryz.underlying51 (by kernel_rfl) rfl (by decide)⟩
instance:mN ucC 53 7:=gM
instance:Zero ucC 53 (.agg #[(u32 0),(u32 0),(.int .i64 0),(u32 0),(.bool false),(u64 0),(.slice none 0 0)]) [(u32 0),(u32 0),(.int .i64 0),(u32 0),(.bool false),(u64 0),(.slice none 0 0)]:=zM
instance:eo ucC 53 0 0 26:=fM 0
instance:eo ucC 53 1 1 26:=fM 0
instance:eo ucC 53 2 2 3:=fM 0
instance:eo ucC 53 3 3 26:=fM 0
instance:eo ucC 53 4 4 4:=fM 0
instance:eo ucC 53 5 5 24:=fM 0
instance:eo ucC 53 6 6 51:=fM 0
instance:ee ucC 53 [(0,1),(1,1),(2,1),(3,1),(4,1),(5,1),(6,1)]:=⟨by kernel_rfl⟩
instance:eN ucC 58 (.slice 64):=uM
instance:eN ucC 60 (.pointer 108):=uM
instance:mN ucC 64 6:=gM
instance:eo ucC 64 0 0 3:=fM 0
instance:eo ucC 64 1 1 3:=fM 0
instance:eo ucC 64 2 2 3:=fM 0
instance:eo ucC 64 3 3 3:=fM 0
instance:eo ucC 64 4 4 4:=fM 0
instance:eo ucC 64 5 5 9:=fM 0
instance:eN ucC 65 (.slice 68):=uM
instance:fi ucC 65:=eM
instance:lj ucC 65 68 7 112:=⟨yt.of (z:=(.agg #[(.int .i64 0),(.int .i64 0),(aZ []),(.bool false),(.slice none 0 0),(.slice none 0 0),(.slice none 0 0)])) Tryz.underlying65 (by kernel_rfl) rfl (by decide)⟩
instance:mN ucC 68 7:=gM
instance:Zero ucC 68 (.agg #[(.int .i64 0),(.int .i64 0),(aZ []),(.bool false),(.slice none 0 0),(.slice none 0 0),(.slice none 0 0)]) [(.int .i64 0),(.int .i64 0),(aZ []),(.bool false),(.slice none 0 0),(.slice none 0 0),(.slice none 0 0)]:=zM
instance:eo ucC 68 0 0 3:=fM 0
instance:eo ucC 68 1 1 36:=fM 0
instance:eo ucC 68 2 2 35:=fM 4
instance:ee ucC 68 [(0,1),(1,1),(2,5)]:=⟨by kernel_rfl⟩
instance:mN ucC 70 2:=gM
instance:Zero ucC 70 (.agg #[(u32 0),(aZ [])]) [(u32 0),(aZ [])]:=zM
instance:ee ucC 70 [(0,1),(1,1)]:=⟨by kernel_rfl⟩
instance:eN ucC 72 (.slice 114):=uM
instance:fi ucC 72:=eM
instance:lj ucC 72 114 3 32:=⟨yt.of (z:=(.agg #[(.int .i64 0),(.int .i64 0),(aZ [])])) Tryz.underlying72 (by kernel_rfl) rfl (by decide)⟩
instance:eN ucC 90 (.pointer 159):=uM
instance:fi ucC 90:=eM
instance:eN ucC 103 (.slice 115):=uM
instance:fi ucC 103:=eM
instance:lj ucC 103 115 1 8:=⟨yt.of (z:=(.pointer none)) Tryz.underlying103 (by kernel_rfl) rfl (by decide)⟩
instance:eN ucC 104 (.map 26 3):=uM
instance:fi ucC 104:=eM
instance:eN ucC 105 (.array 6 4):=uM
instance:mN ucC 105 6:=gM
instance:eN ucC 106 (.array 6 105):=uM
instance:eo ucC 108 0 0 103:=fM 0
instance:eo ucC 108 1 1 104:=fM 0
instance:eo ucC 108 2 2 106:=fM 35
instance:eo ucC 108 3 38 72:=fM 0
instance:eo ucC 108 4 39 24:=fM 0
instance:eo ucC 108 5 40 65:=fM 0
instance:ee ucC 108 [(0,1),(1,1),(2,36),(38,1),(39,1),(40,1)]:=⟨by kernel_rfl⟩
instance:mN ucC 114 3:=gM
instance:Zero ucC 114 (.agg #[(.int .i64 0),(.int .i64 0),(aZ [])]) [(.int .i64 0),(.int .i64 0),(aZ [])]:=zM
instance:eo ucC 114 0 0 3:=fM 0
instance:eo ucC 114 1 1 3:=fM 0
instance:eo ucC 114 2 2 9:=fM 0
instance:ee ucC 114 [(0,1),(1,1),(2,1)]:=⟨by kernel_rfl⟩
instance:eN ucC 115 (.pointer 118):=uM
instance:fi ucC 115:=eM
instance:Zero ucC 115 (.pointer none) [(.pointer none)]:=zM
instance:Zero ucC 118 (.agg #[(u32 0),(.pointer none),(.slice none 0 0),(.int .i64 0),(.bool false)]) [(u32 0),(.pointer none),(.slice none 0 0),(.int .i64 0),(.bool false)]:=zM
instance:eo ucC 118 0 0 26:=fM 0
instance:eo ucC 118 1 1 90:=fM 0
instance:eo ucC 118 2 2 25:=fM 0
instance:eo ucC 118 3 3 3:=fM 0
instance:eo ucC 118 4 4 4:=fM 0
instance:ee ucC 118 [(0,1),(1,1),(2,1),(3,1),(4,1)]:=⟨by kernel_rfl⟩
instance:eN ucC 121 (.slice 128):=uM
instance:fi ucC 121:=eM
instance:lj ucC 121 128 1 8:=⟨yt.of (z:=(.pointer none)) Tryz.underlying121 (by kernel_rfl) rfl (by decide)⟩
instance:eN ucC 122 (.slice 131):=uM
instance:fi ucC 122:=eM
instance:lj ucC 122 131 1 24:=⟨yt.of (z:=(.slice none 0 0)) Tryz.underlying122 (by kernel_rfl) rfl (by decide)⟩
instance:Zero ucC 124 (.agg #[(.slice none 0 0),(.slice none 0 0),(.slice none 0 0),(u64 0),(.slice none 0 0)]) [(.slice none 0 0),(.slice none 0 0),(.slice none 0 0),(u64 0),(.slice none 0 0)]:=zM
instance:eo ucC 124 0 0 121:=fM 0
instance:eo ucC 124 1 1 122:=fM 0
instance:eo ucC 124 2 2 72:=fM 0
instance:eo ucC 124 3 3 24:=fM 0
instance:eo ucC 124 4 4 65:=fM 0
instance:ee ucC 124 [(0,1),(1,1),(2,1),(3,1),(4,1)]:=⟨by kernel_rfl⟩
instance:eN ucC 125 (.pointer 195):=uM
instance:fi ucC 125:=eM
instance:fi ucC 128:=eM
instance:Zero ucC 128 (.pointer none) [(.pointer none)]:=zM
instance:Zero ucC 130 (.agg #[(u32 0),(.pointer none),(aZ []),(.int .i64 0),(.bool false)]) [(u32 0),(.pointer none),(aZ []),(.int .i64 0),(.bool false)]:=zM
instance:eo ucC 130 0 0 26:=fM 0
instance:eo ucC 130 1 1 125:=fM 0
instance:eo ucC 130 2 2 9:=fM 0
instance:eo ucC 130 3 3 3:=fM 0
instance:eo ucC 130 4 4 4:=fM 0
instance:ee ucC 130 [(0,1),(1,1),(2,1),(3,1),(4,1)]:=⟨by kernel_rfl⟩
instance:eN ucC 131 (.slice 4):=uM
instance:fi ucC 131:=eM
instance:lj ucC 131 4 1 1:=⟨yt.of (z:=(.bool false)) Tryz.underlying131 (by kernel_rfl) rfl (by decide)⟩
instance:Zero ucC 131 (.slice none 0 0) [(.slice none 0 0)]:=zM
instance:fi ucC 139:=eM
instance:eN ucC 141 (.map 26 26):=uM
instance:fi ucC 141:=eM
instance:Zero ucC 143 (.agg #[(.slice none 0 0),(u32 0),(.map none)]) [(.slice none 0 0),(u32 0),(.map none)]:=zM
instance:eo ucC 143 0 0 22:=fM 0
instance:eo ucC 143 1 1 26:=fM 0
instance:eo ucC 143 2 2 141:=fM 0
instance:ee ucC 143 [(0,1),(1,1),(2,1)]:=⟨by kernel_rfl⟩
instance:eN ucC 144 (.map 269 24):=uM
instance:fi ucC 144:=eM
instance:eN ucC 145 (.map 26 23):=uM
instance:fi ucC 145:=eM
instance:eN ucC 146 (.map 26 245):=uM
instance:fi ucC 146:=eM
instance:eN ucC 147 (.map 3 245):=uM
instance:fi ucC 147:=eM
instance:fi ucC 148:=eM
instance:Zero ucC 150 (.agg #[]) []:=zM
instance:ee ucC 150 []:=⟨by kernel_rfl⟩
instance:eo ucC 155 1 0 153:=fM 1
instance:eN ucC 156 (.slice 269):=uM
instance:fi ucC 156:=eM
instance:lj ucC 156 269 2 8:=⟨yt.of (z:=(.agg #[(u32 0),(u32 0)])) Tryz.underlying156 (by kernel_rfl) rfl (by decide)⟩
instance:eN ucC 157 (.slice 24):=uM
instance:fi ucC 157:=eM
instance:lj ucC 157 24 1 8:=⟨yt.of (z:=(u64 0)) Tryz.underlying157 (by kernel_rfl) rfl (by decide)⟩
instance:Zero ucC 159 (.agg #[(.int .i32 0),(u32 0),(u32 0),(u32 0),(.pointer none),(.slice none 0 0),(u32 0),(.map none),(u64 0),(.map none),(.slice none 0 0),(.map none),(.map none),(.map none),(.pointer none),(.int .i64 0),(u32 0),(u32 0),(.slice none 0 0),(u64 0),(aZ []),(.bool false),(.slice none 0 0),(.slice none 0 0),(.slice none 0 0)]) [(.int .i32 0),(u32 0),(u32 0),(u32 0),(.pointer none),(.slice none 0 0),(u32 0),(.map none),(u64 0),(.map none),(.slice none 0 0),(.map none),(.map none),(.map none),(.pointer none),(.int .i64 0),(u32 0),(u32 0),(.slice none 0 0),(u64 0),(aZ []),(.bool false),(.slice none 0 0),(.slice none 0 0),(.slice none 0 0)]:=zM
instance:eo ucC 159 0 0 155:=fM 1
instance:eo ucC 159 1 2 26:=fM 0
instance:eo ucC 159 2 3 26:=fM 0
instance:eo ucC 159 3 4 139:=fM 0
instance:eo ucC 159 4 5 143:=fM 2
instance:eo ucC 159 5 8 24:=fM 0
instance:eo ucC 159 6 9 144:=fM 0
instance:eo ucC 159 7 10 156:=fM 0
instance:eo ucC 159 8 11 145:=fM 0
instance:eo ucC 159 9 12 146:=fM 0
instance:eo ucC 159 10 13 147:=fM 0
instance:eo ucC 159 11 14 148:=fM 0
instance:eo ucC 159 12 15 3:=fM 0
instance:eo ucC 159 13 16 26:=fM 0
instance:eo ucC 159 14 17 26:=fM 0
instance:eo ucC 159 15 18 157:=fM 0
instance:eo ucC 159 16 19 24:=fM 0
instance:eo ucC 159 17 20 35:=fM 4
instance:ee ucC 159 [(0,2),(2,1),(3,1),(4,1),(5,3),(8,1),(9,1),(10,1),(11,1),(12,1),(13,1),(14,1),(15,1),(16,1),(17,1),(18,1),(19,1),(20,5)]:=⟨by kernel_rfl⟩
instance:fi ucC 166:=eM
instance:Zero ucC 166 (.int .i64 0) [(.int .i64 0)]:=zM
instance:Zero ucC 171 .nilFunc [.nilFunc]:=zM
instance:eN ucC 172 (.map 41 171):=uM
instance:Zero ucC 176 (.agg #[(.slice none 0 0)]) [(.slice none 0 0)]:=zM
instance:eo ucC 176 0 0 25:=fM 0
instance:ee ucC 176 [(0,1)]:=⟨by kernel_rfl⟩
instance:mN ucC 180 2:=gM
instance:Zero ucC 180 (.agg #[(u32 0),(u32 0)]) [(u32 0),(u32 0)]:=zM
instance:eo ucC 180 0 0 26:=fM 0
instance:eo ucC 180 1 1 26:=fM 0
instance:ee ucC 180 [(0,1),(1,1)]:=⟨by kernel_rfl⟩
instance:fi ucC 190:=eM
instance:eN ucC 191 (.slice 312):=uM
instance:fi ucC 191:=eM
instance:lj ucC 191 312 3 16:=⟨yt.of (z:=(.agg #[(u32 0),(u32 0),(u64 0)])) Tryz.underlying191 (by kernel_rfl) rfl (by decide)⟩
instance:eN ucC 192 (.slice 243):=uM
instance:fi ucC 192:=eM
instance:lj ucC 192 243 2 24:=⟨yt.of (z:=(.agg #[(u32 0),(aZ [])])) Tryz.underlying192 (by kernel_rfl) rfl (by decide)⟩
instance:eN ucC 193 (.slice 210):=uM
instance:fi ucC 193:=eM
instance:lj ucC 193 210 6 48:=⟨yt.of (z:=(.agg #[(u32 0),(.int .i64 0),(.int .i64 0),(u64 0),(.int .i64 0),(.bool false)])) Tryz.underlying193 (by kernel_rfl) rfl (by decide)⟩
instance:Zero ucC 195 (.agg #[(u32 0),(u32 0),(.pointer none),(.slice none 0 0),(u64 0),(.slice none 0 0),(.slice none 0 0),(.slice none 0 0),(.int .i64 0),(u32 0),(u32 0),(.slice none 0 0),(u64 0),(aZ []),(.bool false),(.slice none 0 0),(.slice none 0 0),(.slice none 0 0),(.slice none 0 0),(u32 0)]) [(u32 0),(u32 0),(.pointer none),(.slice none 0 0),(u64 0),(.slice none 0 0),(.slice none 0 0),(.slice none 0 0),(.int .i64 0),(u32 0),(u32 0),(.slice none 0 0),(u64 0),(aZ []),(.bool false),(.slice none 0 0),(.slice none 0 0),(.slice none 0 0),(.slice none 0 0),(u32 0)]:=zM
instance:eo ucC 195 0 0 26:=fM 0
instance:eo ucC 195 1 1 26:=fM 0
instance:eo ucC 195 2 2 190:=fM 0
instance:eo ucC 195 3 3 22:=fM 0
instance:eo ucC 195 4 4 24:=fM 0
instance:eo ucC 195 5 5 191:=fM 0
instance:eo ucC 195 6 6 192:=fM 0
instance:eo ucC 195 7 7 193:=fM 0
instance:eo ucC 195 8 8 3:=fM 0
instance:eo ucC 195 9 9 26:=fM 0
instance:eo ucC 195 10 10 26:=fM 0
instance:eo ucC 195 11 11 157:=fM 0
instance:eo ucC 195 12 12 24:=fM 0
instance:eo ucC 195 13 13 35:=fM 4
instance:eo ucC 195 14 18 22:=fM 0
instance:eo ucC 195 15 19 26:=fM 0
instance:ee ucC 195 [(0,1),(1,1),(2,1),(3,1),(4,1),(5,1),(6,1),(7,1),(8,1),(9,1),(10,1),(11,1),(12,1),(13,5),(18,1),(19,1)]:=⟨by kernel_rfl⟩
instance:Zero ucC 197 (.agg #[(u32 0),(.slice none 0 0)]) [(u32 0),(.slice none 0 0)]:=zM
instance:eo ucC 197 0 0 26:=fM 0
instance:eo ucC 197 1 1 49:=fM 0
instance:ee ucC 197 [(0,1),(1,1)]:=⟨by kernel_rfl⟩
instance:mN ucC 210 6:=gM
instance:Zero ucC 210 (.agg #[(u32 0),(.int .i64 0),(.int .i64 0),(u64 0),(.int .i64 0),(.bool false)]) [(u32 0),(.int .i64 0),(.int .i64 0),(u64 0),(.int .i64 0),(.bool false)]:=zM
instance:eo ucC 210 0 0 26:=fM 0
instance:eo ucC 210 1 1 3:=fM 0
instance:eo ucC 210 2 2 3:=fM 0
instance:eo ucC 210 3 3 24:=fM 0
instance:eo ucC 210 4 4 3:=fM 0
instance:eo ucC 210 5 5 4:=fM 0
instance:ee ucC 210 [(0,1),(1,1),(2,1),(3,1),(4,1),(5,1)]:=⟨by kernel_rfl⟩
instance:eN ucC 213 (.int .u64):=uM
instance:eN ucC 214 (.map 26 226):=uM
instance:fi ucC 214:=eM
instance:Zero ucC 216 (.agg #[(u32 0),(.map none)]) [(u32 0),(.map none)]:=zM
instance:eo ucC 216 0 0 26:=fM 0
instance:eo ucC 216 1 1 214:=fM 0
instance:ee ucC 216 [(0,1),(1,1)]:=⟨by kernel_rfl⟩
instance:eN ucC 219 (.map 3 3):=uM
instance:fi ucC 219:=eM
instance:eN ucC 220 (.slice 292):=uM
instance:fi ucC 220:=eM
instance:lj ucC 220 292 3 24:=⟨yt.of (z:=(.agg #[(u64 0),(.int .i64 0),(.int .i64 0)])) Tryz.underlying220 (by kernel_rfl) rfl (by decide)⟩
instance:Zero ucC 222 (.agg #[(.slice none 0 0),(.map none),(.int .i64 0)]) [(.slice none 0 0),(.map none),(.int .i64 0)]:=zM
instance:eo ucC 222 0 0 220:=fM 0
instance:eo ucC 222 1 1 219:=fM 0
instance:eo ucC 222 2 2 3:=fM 0
instance:ee ucC 222 [(0,1),(1,1),(2,1)]:=⟨by kernel_rfl⟩
instance:Zero ucC 226 (.pointer none) [(.pointer none)]:=zM
instance:eN ucC 228 (.map 26 150):=uM
instance:fi ucC 228:=eM
instance:Zero ucC 230 (.agg #[(u32 0),(u32 0),(.int .i64 0),(u32 0),(.bool false),(u64 0),(.slice none 0 0),(.map none)]) [(u32 0),(u32 0),(.int .i64 0),(u32 0),(.bool false),(u64 0),(.slice none 0 0),(.map none)]:=zM
instance:eo ucC 230 0 0 53:=fM 6
instance:eo ucC 230 1 7 228:=fM 0
instance:ee ucC 230 [(0,7),(7,1)]:=⟨by kernel_rfl⟩
instance:Zero ucC 232 (.agg #[]) []:=zM
instance:ee ucC 232 []:=⟨by kernel_rfl⟩
instance:mN ucC 243 2:=gM
instance:Zero ucC 243 (.agg #[(u32 0),(aZ [])]) [(u32 0),(aZ [])]:=zM
instance:eo ucC 243 0 0 26:=fM 0
instance:eo ucC 243 1 1 9:=fM 0
instance:ee ucC 243 [(0,1),(1,1)]:=⟨by kernel_rfl⟩
instance:eN ucC 245 (.pointer 247):=uM
instance:Zero ucC 245 (.pointer none) [(.pointer none)]:=zM
instance:Zero ucC 247 (.agg #[(u32 0),(.int .i64 0),(.int .i64 0),(.bool false),(.int .i64 0),.nilFunc,(.pointer none)]) [(u32 0),(.int .i64 0),(.int .i64 0),(.bool false),(.int .i64 0),.nilFunc,(.pointer none)]:=zM
instance:eo ucC 247 0 0 26:=fM 0
instance:eo ucC 247 1 1 3:=fM 0
instance:eo ucC 247 2 2 3:=fM 0
instance:eo ucC 247 3 3 4:=fM 0
instance:eo ucC 247 4 4 3:=fM 0
instance:eo ucC 247 5 5 1:=fM 0
instance:eo ucC 247 6 6 90:=fM 0
instance:ee ucC 247 [(0,1),(1,1),(2,1),(3,1),(4,1),(5,1),(6,1)]:=⟨by kernel_rfl⟩
instance:eN ucC 252 (.map 28 26):=uM
instance:fi ucC 252:=eM
instance:mN ucC 269 2:=gM
instance:Zero ucC 269 (.agg #[(u32 0),(u32 0)]) [(u32 0),(u32 0)]:=zM
instance:ee ucC 269 [(0,1),(1,1)]:=⟨by kernel_rfl⟩
instance:mN ucC 292 3:=gM
instance:Zero ucC 292 (.agg #[(u64 0),(.int .i64 0),(.int .i64 0)]) [(u64 0),(.int .i64 0),(.int .i64 0)]:=zM
instance:eo ucC 292 0 0 24:=fM 0
instance:eo ucC 292 1 1 3:=fM 0
instance:eo ucC 292 2 2 3:=fM 0
instance:ee ucC 292 [(0,1),(1,1),(2,1)]:=⟨by kernel_rfl⟩
instance:eN ucC 304 (.array 5 26):=uM
instance:Zero ucC 304 (.agg #[(u32 0),(u32 0),(u32 0),(u32 0),(u32 0)]) [(u32 0),(u32 0),(u32 0),(u32 0),(u32 0)]:=zM
instance:eN ucC 305 (.array 4 26):=uM
instance:Zero ucC 305 (.agg #[(u32 0),(u32 0),(u32 0),(u32 0)]) [(u32 0),(u32 0),(u32 0),(u32 0)]:=zM
instance:eN ucC 306 (.array 3 26):=uM
instance:Zero ucC 306 (.agg #[(u32 0),(u32 0),(u32 0)]) [(u32 0),(u32 0),(u32 0)]:=zM
instance:mN ucC 312 3:=gM
instance:Zero ucC 312 (.agg #[(u32 0),(u32 0),(u64 0)]) [(u32 0),(u32 0),(u64 0)]:=zM
instance:eo ucC 312 0 0 26:=fM 0
instance:eo ucC 312 1 1 26:=fM 0
instance:eo ucC 312 2 2 24:=fM 0
instance:ee ucC 312 [(0,1),(1,1),(2,1)]:=⟨by kernel_rfl⟩
instance:aA ucC 19:=iM Tryz.func19
instance:aA ucC 20:=iM Tryz.func20
instance:aA ucC 21:=iM Tryz.func21
instance:aA ucC 22:=iM Tryz.func22
instance:aA ucC 26:=iM Tryz.func26
instance:aA ucC 27:=iM Tryz.func27
instance:aA ucC 28:=iM Tryz.func28
instance:aA ucC 29:=iM Tryz.func29
instance:aA ucC 30:=iM Tryz.func30
instance:aA ucC 31:=iM Tryz.func31
instance:aA ucC 32:=iM Tryz.func32
instance:aA ucC 34:=iM Tryz.func34
instance:aA ucC 35:=iM Tryz.func35
instance:aA ucC 36:=iM Tryz.func36
instance:aA ucC 39:=iM Tryz.func39
instance:aA ucC 40:=iM Tryz.func40
instance:aA ucC 41:=iM Tryz.func41
instance:aA ucC 42:=iM Tryz.func42
instance:aA ucC 43:=iM Tryz.func43
instance:aA ucC 45:=iM Tryz.func45
instance:aA ucC 46:=iM Tryz.func46
instance:aA ucC 47:=iM Tryz.func47
instance:aA ucC 48:=iM Tryz.func48
instance:aA ucC 49:=iM Tryz.func49
instance:aA ucC 50:=iM Tryz.func50
instance:aA ucC 51:=iM Tryz.func51
instance:aA ucC 52:=iM Tryz.func52
instance:aA ucC 53:=iM Tryz.func53
instance:aA ucC 54:=iM Tryz.func54
instance:aA ucC 55:=iM Tryz.func55
instance:aA ucC 56:=iM Tryz.func56
instance:aA ucC 57:=iM Tryz.func57
instance:aA ucC 58:=iM Tryz.func58
instance:aA ucC 59:=iM Tryz.func59
instance:aA ucC 60:=iM Tryz.func60
instance:aA ucC 61:=iM Tryz.func61
instance:aA ucC 62:=iM Tryz.func62
instance:aA ucC 63:=iM Tryz.func63
instance:aA ucC 64:=iM Tryz.func64
instance:aA ucC 65:=iM Tryz.func65
instance:aA ucC 66:=iM Tryz.func66
instance:aA ucC 67:=iM Tryz.func67
instance:aA ucC 68:=iM Tryz.func68
instance:aA ucC 69:=iM Tryz.func69
instance:aA ucC 70:=iM Tryz.func70
instance:aA ucC 71:=iM Tryz.func71
instance:aA ucC 72:=iM Tryz.func72
instance:aA ucC 73:=iM Tryz.func73
instance:aA ucC 74:=iM Tryz.func74
instance:aA ucC 75:=iM Tryz.func75
instance:aA ucC 77:=iM Tryz.func77
instance:aA ucC 78:=iM Tryz.func78
instance:aA ucC 80:=iM Tryz.func80
instance:aA ucC 82:=iM Tryz.func82
instance:aA ucC 84:=iM Tryz.func84
instance:aA ucC 85:=iM Tryz.func85
instance:aA ucC 86:=iM Tryz.func86
instance:aA ucC 87:=iM Tryz.func87
instance:aA ucC 88:=iM Tryz.func88
instance:aA ucC 89:=iM Tryz.func89
instance:aA ucC 90:=iM Tryz.func90
instance:aA ucC 91:=iM Tryz.func91
instance:aA ucC 92:=iM Tryz.func92
instance:aA ucC 93:=iM Tryz.func93
instance:aA ucC 94:=iM Tryz.func94
instance:aA ucC 95:=iM Tryz.func95
instance:aA ucC 96:=iM Tryz.func96
instance:aA ucC 97:=iM Tryz.func97
instance:aA ucC 98:=iM Tryz.func98
instance:aA ucC 99:=iM Tryz.func99
instance:aA ucC 100:=iM Tryz.func100
instance:aA ucC 101:=iM Tryz.func101
instance:aA ucC 102:=iM Tryz.func102
instance:aA ucC 103:=iM Tryz.func103
instance:aA ucC 104:=iM Tryz.func104
instance:aA ucC 105:=iM Tryz.func105
instance:aA ucC 106:=iM Tryz.func106
instance:aA ucC 107:=iM Tryz.func107
instance:aA ucC 108:=iM Tryz.func108
instance:aA ucC 109:=iM Tryz.func109
instance:aA ucC 110:=iM Tryz.func110
instance:aA ucC 111:=iM Tryz.func111
instance:aA ucC 112:=iM Tryz.func112
instance:aA ucC 114:=iM Tryz.func114
instance:aA ucC 115:=iM Tryz.func115
instance:aA ucC 116:=iM Tryz.func116
instance:aA ucC 117:=iM Tryz.func117
instance:aA ucC 118:=iM Tryz.func118
instance:aA ucC 119:=iM Tryz.func119
instance:aA ucC 120:=iM Tryz.func120
instance:aA ucC 121:=iM Tryz.func121
instance:aA ucC 122:=iM Tryz.func122
instance:aA ucC 123:=iM Tryz.func123
instance:aA ucC 124:=iM Tryz.func124
instance:aA ucC 125:=iM Tryz.func125
instance:aA ucC 126:=iM Tryz.func126
instance:aA ucC 127:=iM Tryz.func127
instance:aA ucC 128:=iM Tryz.func128
instance:aA ucC 129:=iM Tryz.func129
instance:aA ucC 130:=iM Tryz.func130
instance:aA ucC 131:=iM Tryz.func131
instance:aA ucC 132:=iM Tryz.func132
instance:aA ucC 133:=iM Tryz.func133
instance:aA ucC 134:=iM Tryz.func134
instance:aA ucC 135:=iM Tryz.func135
instance:aA ucC 136:=iM Tryz.func136
instance:aA ucC 137:=iM Tryz.func137
instance:aA ucC 138:=iM Tryz.func138
instance:aA ucC 139:=iM Tryz.func139
instance:aA ucC 140:=iM Tryz.func140
instance:aA ucC 141:=iM Tryz.func141
instance:aA ucC 142:=iM Tryz.func142
instance:aA ucC 143:=iM Tryz.func143
instance:aA ucC 144:=iM Tryz.func144
instance:aA ucC 145:=iM Tryz.func145
instance:aA ucC 146:=iM Tryz.func146
instance:aA ucC 147:=iM Tryz.func147
instance:aA ucC 148:=iM Tryz.func148
instance:aA ucC 149:=iM Tryz.func149
instance:aA ucC 150:=iM Tryz.func150
instance:aA ucC 151:=iM Tryz.func151
instance:aA ucC 152:=iM Tryz.func152
instance:aA ucC 153:=iM Tryz.func153
instance:aA ucC 154:=iM Tryz.func154
instance:aA ucC 155:=iM Tryz.func155
instance:aA ucC 156:=iM Tryz.func156
instance:aA ucC 157:=iM Tryz.func157
instance:aA ucC 168:=iM Tryz.func168
instance:aA ucC 169:=iM Tryz.func169
instance:aA ucC 170:=iM Tryz.func170
instance:aA ucC 171:=iM Tryz.func171
instance:aA ucC 172:=iM Tryz.func172
instance:aA ucC 173:=iM Tryz.func173
instance:aA ucC 174:=iM Tryz.func174
instance:aA ucC 175:=iM Tryz.func175
instance:aA ucC 176:=iM Tryz.func176
instance:aA ucC 177:=iM Tryz.func177
instance:aA ucC 178:=iM Tryz.func178
instance:aA ucC 179:=iM Tryz.func179
instance:aA ucC 180:=iM Tryz.func180
instance:aA ucC 181:=iM Tryz.func181
instance:aA ucC 182:=iM Tryz.func182
instance:aA ucC 183:=iM Tryz.func183
instance:aA ucC 184:=iM Tryz.func184
instance:aA ucC 185:=iM Tryz.func185
instance:aA ucC 186:=iM Tryz.func186
instance:aA ucC 187:=iM Tryz.func187
instance:aA ucC 188:=iM Tryz.func188
instance:aA ucC 189:=iM Tryz.func189
instance:aA ucC 190:=iM Tryz.func190
instance:aA ucC 191:=iM Tryz.func191
instance:aA ucC 192:=iM Tryz.func192
instance:aA ucC 193:=iM Tryz.func193
instance:aA ucC 194:=iM Tryz.func194
instance:aA ucC 195:=iM Tryz.func195
instance:aA ucC 196:=iM Tryz.func196
instance:aA ucC 197:=iM Tryz.func197
instance:aA ucC 198:=iM Tryz.func198
instance:aA ucC 199:=iM Tryz.func199
instance:aA ucC 200:=iM Tryz.func200
instance:aA ucC 201:=iM Tryz.func201
instance:aA ucC 202:=iM Tryz.func202
instance:aA ucC 203:=iM Tryz.func203
instance:aA ucC 204:=iM Tryz.func204
instance:aA ucC 212:=iM Tryz.func212
instance:aA ucC 213:=iM Tryz.func213
instance:aA ucC 214:=iM Tryz.func214
instance:aA ucC 215:=iM Tryz.func215
instance:aA ucC 216:=iM Tryz.func216
instance:aA ucC 217:=iM Tryz.func217
instance:aA ucC 218:=iM Tryz.func218
instance:aA ucC 219:=iM Tryz.func219
instance:aA ucC 220:=iM Tryz.func220
instance:aA ucC 221:=iM Tryz.func221
instance:aA ucC 222:=iM Tryz.func222
instance:aA ucC 223:=iM Tryz.func223
instance:aA ucC 224:=iM Tryz.func224
instance:aA ucC 225:=iM Tryz.func225
instance:aA ucC 226:=iM Tryz.func226
instance:aA ucC 227:=iM Tryz.func227
instance:aA ucC 228:=iM Tryz.func228
instance:aA ucC 230:=iM Tryz.func230
instance:aA ucC 231:=iM Tryz.func231
instance:aA ucC 232:=iM Tryz.func232
instance:aA ucC 233:=iM Tryz.func233
instance:aA ucC 244:=iM Tryz.func244
instance:aA ucC 250:=iM Tryz.func250
end
end Go.Proofs.YtapoehkdnglahabGreat

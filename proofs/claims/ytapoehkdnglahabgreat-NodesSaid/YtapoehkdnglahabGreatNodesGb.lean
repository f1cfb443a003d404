/- A part of what Nodes needs. -/
import Derived.Test.YtapoehkdnglahabGreatNodesGa
set_option linter.unusedVariables false
set_option linter.unusedSimpArgs false
set_option linter.unusedSectionVars false
namespace Go.Proofs.YtapoehkdnglahabGreat
section
open Go.RowKit
variable {P:Program} {n:fT} {w0:World} {E:Env} {D:List Deferred} {H F R:af} {ops:Array Oper} {l:List Oper} {Q:Exit→St→Prop} {w:World}
def mD:Op→Bool
 | .convert s t _=>Nat.beq t 9||Nat.beq s 9
 | .move _| .assign _| .pick .. | .nilCheck _| .binOp .. | .unOp .. | .fieldAddr .. | .field .. | .indexAddr .. | .index .. | .extract .. | .slice .. | .build .. | .load .. | .lookup .. | .makeFunc .. =>false
 | .call {callee:= .builtin .len,..}| .call {callee:= .builtin .cap,..}| .call {callee:= .builtin .min,..}| .call {callee:= .builtin .max,..}=>false
 |_=>true
def fG:Op→Bool
 | .alloc _=>true
 |_=>false
def cv (P:Program) (n:fT) (w0:World) (o:Oper) (E:Env) (H:af) (v:Value):Prop:=
 ∀a w (K:Act→World→Prop) (Q:Exit→Act→World→Prop),fV n E a→Sat w0 w H→(∀w',Sat w0 w' H→K (a.put o.dst v) w')→o.wp P a w K Q
@[reducible] def hp (c:Bool) (R L F:af):af:=bif c then R*F else R*(L*F)
inductive DL (P:Program) (n:fT) (w0:World) (ops:Array Oper) (Q:Exit→St→Prop) (D:List Deferred) (R L:af) (B:Nat→Bool) (cp:Nat):Nat→Bool→List Oper→Env→af→Prop
 |nil {k:Nat} {c:Bool} {E:Env} {F H:af}:H=hp c R L F→Q .normal ⟨E,D,H⟩→DL P n w0 ops Q D R L B cp k c [] E F
 |q {k:Nat} {c:Bool} {o:Oper} {l:List Oper} {E:Env} {F:af} {v:Value}:mD o.op=false→gC n o.dst=true→(∃b,fO ops E o=some (b,b))→(∀F',cD P n w0 o E (R*F') v)→DL P n w0 ops Q D R L B cp (k+1) c l (E.hJ o.dst v) F→DL P n w0 ops Q D R L B cp k c (o::l) E F
 |qp {k:Nat} {o:Oper} {l:List Oper} {E:Env} {F:af} {v:Value}:mD o.op=false→gC n o.dst=true→B k=true→(∃b,fO ops E o=some (b,b))→(∀F',cD P n w0 o E (R*(L*F')) v)→DL P n w0 ops Q D R L B cp (k+1) false l (E.hJ o.dst v) F→DL P n w0 ops Q D R L B cp k false (o::l) E F
 |qs {k:Nat} {c:Bool} {o:Oper} {l:List Oper} {E:Env} {F:af} {v:Value}:mD o.op=false→gC n o.dst=true→B (k+1000)=true→(∃b,fO ops E o=some (b,b))→cD P n w0 o E (hp c R L F) v→DL P n w0 ops Q D R L B cp (k+1) c l (E.hJ o.dst v) F→DL P n w0 ops Q D R L B cp k c (o::l) E F
 |skip {k:Nat} {c:Bool} {o:Oper} {l:List Oper} {E:Env} {F:af} {b:Bool}:fG o.op=false→gC n o.dst=true→fO ops E o=some (b,!b)→DL P n w0 ops Q D R L B cp (k+1) c l (E.hJ o.dst undef) F→DL P n w0 ops Q D R L B cp k c (o::l) E F
 |t {k:Nat} {c:Bool} {o:Oper} {l:List Oper} {E:Env} {F F':af} {α:Type} {pre:af} {v:α→Value} {post:α→af}:mD o.op=true→fG o.op=false→gC n o.dst=true→(∃b,fO ops E o=some (b,b))→eM P n w0 o E pre v post→F=pre*F'→
  (∀x,DL P n w0 ops Q D R L B cp (k+1) c l (E.hJ o.dst (v x)) (post x*F'))→DL P n w0 ops Q D R L B cp k c (o::l) E F
 |tq {k:Nat} {c:Bool} {o:Oper} {l:List Oper} {E:Env} {F:af} {v:Value}:mD o.op=true→fG o.op=false→gC n o.dst=true→(∃b,fO ops E o=some (b,b))→(∀F',cv P n w0 o E (hp c R L F') v)→
  DL P n w0 ops Q D R L B cp (k+1) c l (E.hJ o.dst v) F→DL P n w0 ops Q D R L B cp k c (o::l) E F
 |a {k:Nat} {c:Bool} {d:Nat} {t ty:TypeId} {pos:String} {after:Array Edge} {l:List Oper} {E:Env} {F:af} {z:Value} {zs:List Value}:gC n (some d)=true→Zero P t z zs→
  (∀g,DL P n w0 ops Q D R L B cp (k+1) c l ((d,ptr g 0)::E) (aK g t zs*F))→DL P n w0 ops Q D R L B cp k c (⟨some d,.alloc t,ty,pos,after,none⟩::l) E F
 |yW {l:List Oper} {E:Env} {F:af}:DL P n w0 ops Q D R L B cp cp true l E (L*F)→DL P n w0 ops Q D R L B cp cp false l E F
def kp (ops:Array Oper) (j:Nat):Option Oper:=
 match ops[j]? with
 |some o=>bif fG o.op&&o.guard.isNone&&o.dst.isSome then some o else none
 |none=>none
def BX (ops:Array Oper) (i:Nat):Nat→List Nat
 |0=>[]
 |k+1=>let r:=BX ops i k
  bif k==i||(match ops[k]? with
   |some o=>o.after.any fun e=>Region.binds .any e&&Nat.blt e.on k&&r.contains e.on
   |none=>false)then k::r else r
def B0 (ops:Array Oper) (j:Nat):Bool:=match ops[j]? with
 |some o=>mD o.op
 |none=>false
def ux (ops:Array Oper) (B:Nat→Bool) (post:List Nat):Nat→Nat→Nat→List Nat→Array Bool→Option Nat→Bool
 |0,_,_,_,_,_=>false
 |m+1,f,k,[],ao,e=>e.isNone&&(Region.ready .any ops ao).isEmpty
 |m+1,f,k,i::r,ao,e=>
  bif e==some i then ux ops B post m f (k+1) r ao none
  else match f,ops[i]? with
   |f'+1,some o=>
    (match e with
     |none=>true
     |some j=>match kp ops j with
      |some oj=>oj.apart ops o
      |none=>false)&&
    (bif mD o.op then
     (Region.ready .any ops ao).contains i&&ux ops B post m f' (k+1) r (ao.setIfInBounds i true) e&&
     (Region.ready .any ops ao).all fun j=>j==i||(e.isNone&&(kp ops j).isSome&&ux ops B post m f' k (i::r) (ao.setIfInBounds j true) (some j))
    else Region.free .any ops ao i&&(Region.ready .any ops ao).contains i&&(!B k||post.all fun j=>(BX ops i ops.size).contains j)&&(!B (k+1000)||(e.isNone&&(Region.ready .any ops ao).all fun j=>j==i))&&ux ops B post m f' (k+1) r (ao.setIfInBounds i true) e)
   |_,_=>false
def Down (ops:Array Oper) (ao:Array Bool):Prop:=∀j o,ops[j]? =some o→ao.getD j false=true→∀e∈o.after,Region.binds .any e=true→ao.getD e.on false=true
theorem Down.set {ao:Array Bool} (h:Down ops ao) {i:Nat} (hi:i∈Region.ready .any ops ao):Down ops (ao.setIfInBounds i true):=by
 intro j o hj hl e he hb
 by_cases pZ:j=i
 ·subst pZ
  obtain⟨_,o',Hm,l9⟩:=mem_ready.1 hi
  rw[hj]at Hm;cases Hm
  exact getD_set_true (l9 e he hb)
 ·rw[getD_set_ne false (Ne.symm pZ)]at hl
  exact getD_set_true (h j o hj hl e he hb)
theorem tz (i:Nat):∀(k j:Nat),j∈BX ops i k→j=i∨∃o,ops[j]? =some o∧∃e∈o.after,Region.binds .any e=true∧e.on<j∧e.on∈BX ops i k
 |0,j,h=>by cases h
 |k+1,j,h=>by
  unfold BX at h ⊢
  simp only at h ⊢
  cases hb:(k==i||(match ops[k]? with
   |some o=>o.after.any fun e=>Region.binds .any e&&Nat.blt e.on k&&(BX ops i k).contains e.on
   |none=>false))with
  |false=>
   rw[hb]at h
   simp only[cond_false]at h ⊢
   exact tz i k j h
  |true=>
   rw[hb]at h
   simp only[cond_true]at h ⊢
   rcases List.mem_cons.1 h with rfl|h
   ·by_cases pZ:j=i
    ·exact .inl pZ
    ·right
     simp only[Bool.or_eq_true,beq_iff_eq,pZ,false_or]at hb
     cases ho:ops[j]? with
     |none=>rw[ho]at hb;cases hb
     |some o=>
      rw[ho]at hb
      obtain⟨e,he,hh⟩:=Array.any_eq_true'.1 hb
      simp only[Bool.and_eq_true]at hh
      obtain⟨⟨h1,h2⟩,h3⟩:=hh
      exact⟨o,rfl,e,he,h1,by simpa using h2,List.mem_cons_of_mem _ (by simpa using h3)⟩
   ·rcases tz i k j h with h|⟨o,ho,e,he,h1,h2,h3⟩
    ·exact .inl h
    ·exact .inr ⟨o,ho,e,he,h1,h2,List.mem_cons_of_mem _ h3⟩
theorem rO {ao:Array Bool} (hd:Down ops ao) {i m:Nat} (hi:ao.getD i true=false):∀j,j∈BX ops i m→ao.getD j false=false:=by
 have OD:ao.getD i false=false:=by
  rcases Nat.lt_or_ge i ao.size with h'|h'
  ·simp[h']at hi ⊢;exact hi
  ·simp[Array.getElem?_eq_none h']at hi
 intro j
 induction j using Nat.strongRecOn with
 |_ j ih=>
  intro hj
  rcases tz i m j hj with rfl|⟨o,ho,e,he,h1,h2,h3⟩
  ·exact OD
  ·cases hl:ao.getD j false with
   |false=>rfl
   |true=>
    have:=hd j o ho hl e he h1
    rw[ih e.on h2 h3]at this
    cases this
def kS (P:Program) (ops:Array Oper) (Q:Exit→Act→World→Prop) (S:Array Bool→World→Prop):Nat→Array Bool→Act→World→Prop
 |0,ao,a,w=>Region.ready .any ops ao=[]∧Q .normal a w
 |f+1,ao,a,w=>(Region.ready .any ops ao=[]→Q .normal a w)∧
  ∀i∈Region.ready .any ops ao,wpOp P ops Q i (fun a' w'=>S (ao.setIfInBounds i true) w'∧kS P ops Q S f (ao.setIfInBounds i true) a' w') a w
theorem qW {Q:Exit→Act→World→Prop} {S:Array Bool→World→Prop}:∀(f:Nat) (ao:Array Bool) (a:Act) (w:World),kS P ops Q S f ao a w→wpAny P .any ops Q f ao a w
 |0,_,_,_,h=>h
 |f+1,_,_,_,h=>⟨h.1,fun i hi=>wpOp_mono (fun a' w' h'=>qW f _ a' w' h'.2) (h.2 i hi)⟩
theorem sU {Q:Exit→Act→World→Prop} {S:Array Bool→World→Prop} {i:Nat} {oi:Oper} {v:Value} (hi:ops[i]? =some oi) (rY:Region.noSelect ops=true)
 (hQ:∀(c:List PanicEntry) (a:Act) (w:World),¬Q (.panic c) a w) (T:World→Prop)
 (hT:∀ao w,Down ops ao→ao.getD i true=false→S ao w→T w) (zq:∀ao w,S ao w→S (ao.setIfInBounds i true) w)
 (S4:∀ao j w,Down ops ao→ao.getD i true=false→j≠i→j∈Region.ready .any ops ao→S ((ao.setIfInBounds i true).setIfInBounds j true) w→S (ao.setIfInBounds j true) w):
 ∀(f:Nat) (ao:Array Bool) (a:Act) (w:World),Down ops ao→
  (∀j oj,ops[j]? =some oj→j≠i→ao.getD j true=false→(∀e∈oj.after,Region.binds .any e=true→e.on≠i)→oi.apart ops oj=true)→
  i∈Region.ready .any ops ao→YieldsIf P ops T oi v a→S ao w→kS P ops Q S f (ao.setIfInBounds i true) (a.put oi.dst v) w→kS P ops Q S (f+1) ao a w:=by
 intro f
 induction f with
 |zero=>
  intro ao a w hd rV hr hy hS h
  refine⟨fun h0=>(by rw[h0]at hr;cases hr),fun j hj=> ?_⟩
  by_cases pZ:j=i
  ·subst pZ
   exact hy.wpOp hi (hT ao w hd (mem_ready.1 hr).1 hS) ⟨zq _ _ hS,h⟩
  ·have:=ready_mono hj pZ
   rw[h.1]at this
   cases this
 |succ f ih=>
  intro ao a w hd rV hr hy hS h
  refine⟨fun h0=>(by rw[h0]at hr;cases hr),fun j hj=> ?_⟩
  by_cases pZ:j=i
  ·subst pZ
   exact hy.wpOp hi (hT ao w hd (mem_ready.1 hr).1 hS) ⟨zq _ _ hS,h⟩
  ·have OH:=(mem_ready.1 hr).1
   have h1:=h.2 j (ready_mono hj pZ)
   obtain⟨Q8,oj,OS,l9⟩:=mem_ready.1 hj
   have Es:∀e∈oj.after,Region.binds .any e=true→e.on≠i:=fun e he hb heq=>by
    have h2:=l9 e he hb
    rw[heq]at h2
    rcases Nat.lt_or_ge i ao.size with h'|h'
    ·simp[h']at OH h2;rw[OH]at h2;cases h2
    ·simp[Array.getElem?_eq_none h']at h2
   have h2:=wpOp_putIf OS (rV j oj OS pZ Q8 Es) (fun cs b=>Region.noSelect_spec rY i oi cs b hi) (fun cs b=>Region.noSelect_spec rY j oj cs b OS) (fun c a w hq=>absurd hq (hQ _ _ _)) hy h1
   refine wpOp_mono (fun a' w' h3=> ?_) h2
   have SG:=S4 ao j w' hd OH pZ hj h3.2.1
   refine⟨SG,ih (ao.setIfInBounds j true) a' w' (hd.set hj) (fun k ok hk AK Qb zt=>rV k ok hk AK ?_ zt) (ready_mono hr (Ne.symm pZ)) h3.1 SG ?_⟩
   ·by_cases ym:j=k
    ·subst ym;exact Q8
    ·rw[getD_set_ne true ym]at Qb;exact Qb
   ·rw[Array.setIfInBounds_comm _ _ pZ]
    exact h3.2.2
theorem uR {Q:Exit→Act→World→Prop} {S:Array Bool→World→Prop} {ao:Array Bool} {a:Act} {w:World} (hr:Region.ready .any ops ao=[]) (h:Q .normal a w):∀f,kS P ops Q S f ao a w
 |0=>⟨hr,h⟩
 |_+1=>⟨fun _=>h,by rw[hr];simp⟩
def j5 (w0:World) (ops:Array Oper) (R L:af) (post:List Nat) (ao:Array Bool) (w:World):Prop:=
 ∃F',Sat w0 w (bif post.any (fun j=>ao.getD j false)then R*F' else R*(L*F'))
theorem j5.read {R L:af} {post:List Nat} {ao:Array Bool} {w:World} (h:j5 w0 ops R L post ao w):∃F',Sat w0 w (R*F'):=by
 obtain⟨F',h⟩:=h
 cases hb:post.any (fun j=>ao.getD j false)with
 |true=>rw[hb]at h;exact⟨_,h⟩
 |false=>rw[hb]at h;exact⟨_,h⟩
theorem j5.whole {R L:af} {post:List Nat} {ao:Array Bool} {w:World} {F':af} (h:Sat w0 w (R*(L*F'))):j5 w0 ops R L post ao w:=by
 cases hb:post.any (fun j=>ao.getD j false)with
 |true=>exact⟨L*F',by rw[hb];exact h⟩
 |false=>exact⟨F',by rw[hb];exact h⟩
theorem j5.Py {R L:af} {post:List Nat} {ao:Array Bool} {w:World} {F':af} (hb:post.any (fun j=>ao.getD j false)=true) (h:Sat w0 w (R*F')):j5 w0 ops R L post ao w:=
 ⟨F',by rw[hb];exact h⟩
theorem FG {post:List Nat} {ao:Array Bool} {i:Nat} (hi:i∉post):post.any (fun j=>(ao.setIfInBounds i true).getD j false)=post.any (fun j=>ao.getD j false):=by
 rw[Bool.eq_iff_iff,List.any_eq_true,List.any_eq_true]
 constructor
 ·rintro⟨j,hj,h⟩;exact⟨j,hj,by rw[getD_set_ne false (fun e=>hi (by rw[e];exact hj))]at h;exact h⟩
 ·rintro⟨j,hj,h⟩;exact⟨j,hj,getD_set_true h⟩
theorem j5.set {R L:af} {post:List Nat} {ao:Array Bool} {w:World} (h:j5 w0 ops R L post ao w) (i:Nat):j5 w0 ops R L post (ao.setIfInBounds i true) w:=by
 cases hb:post.any (fun j=>ao.getD j false)with
 |true=>
  obtain⟨F',h⟩:=h
  rw[hb]at h
  refine .Py ?_ h
  obtain⟨j,hj,h⟩:=List.any_eq_true.1 hb
  exact List.any_eq_true.2 ⟨j,hj,getD_set_true h⟩
 |false=>obtain⟨F',h⟩:=h;rw[hb]at h;exact .whole h
theorem Lg {o oj:Oper} {v:Value} (Lk:oj.apart ops o=true) (hs:∀cs b,o.op≠ .select cs b) {Q:Exit→Act→World→Prop} (hQ:∀c a w,¬Q (.panic c) a w) {K:Act→World→Prop} {a:Act} {w:World}
 (h:o.wp P a w (fun x w=>K (x.put oj.dst v) w) Q):o.wp P (a.put oj.dst v) w K Q:=by
 obtain⟨h1,h2,h3⟩:=Oper.apart_spec Lk
 unfold Oper.wp at*
 rw[execOp_put o hs a oj.dst v h1]
 generalize (execOp a.eval o).run P w=r at*
 cases r with
 |ok nx w'=>
  cases nx<;>simp only[Oper.upon]at h ⊢
  case value u=>rw[Act.put_comm a v u h2];exact h
  case skip=>rw[Act.put_comm a v undef h2];exact h
  case defer d=>rw[Act.put_defers,Act.put_comm _ v undef h2];exact h
  case enter f args=>
   refine Calls.mono h fun e Vq he=> ?_
   cases e with
   |returned u=>show K ((a.put oj.dst v).put o.dst u) Vq;rw[Act.put_comm a v u h2];exact he
   |panicked c=>exact absurd he (hQ _ _ _)
   |outgrown=>exact he
  case row row args=>exact Rows.mono h fun u Vq he=>by show K ((a.put oj.dst v).put o.dst u) Vq;rw[Act.put_comm a v u h2];exact he
 |halt x w'=>
  cases x<;>simp only[Oper.upon]at h ⊢
  case panic u=>exact absurd h (hQ _ _ _)
def j1 (Q:Exit→Act→World→Prop):Exit→Act→World→Prop
 | .panic _,_,_=>False
 | .outgrown,_,_=>False
 |e,a,w=>Q e a w
theorem Ig (w:World) {t:TypeId} {z:Value} {zs:List Value} (hz:Zero P t z zs):(Instr.alloc t true (.tuple #[])).run P w= .ok (ptr w.heap.size 0) (w.alloc (.cells zs.toArray t)):=by
 obtain⟨i,hi,uZ⟩:=Option.map_eq_some_iff.1 hz.eq
 have hc:z.cells=zs.toArray:=by rw[gX,hz.cells]
 simp[Instr.alloc,zeroValue,typeInfo,hi,uZ,newVar,newRow,hc]
theorem nK (ρ:Operand→Value) {d:Option Tmp} {t ty:TypeId} {pos:String} {after:Array Edge} {gu:Option (Nat×Bool)} (w:World) {z:Value} {zs:List Value} (hz:Zero P t z zs):
 (execOp ρ ⟨d,.alloc t,ty,pos,after,gu⟩).run P w= .ok (.value (ptr w.heap.size 0)) (w.alloc (.cells zs.toArray t)):=by
 simp[execOp,Ig w hz]
inductive Fv (P:Program) (n:fT) (ops:Array Oper) (a0:Act) (H:af):Option Nat→Act→af→Prop
 |none:Fv P n ops a0 H none a0 H
 |some {j d:Nat} {t ty:TypeId} {g:Nat} {pos:String} {after:Array Edge} {z:Value} {zs:List Value}:ops[j]? =some ⟨some d,.alloc t,ty,pos,after,none⟩→Zero P t z zs→
  Fv P n ops a0 H (some j) (a0.put (some d) (ptr g 0)) (aK g t zs*H)
def Lh (P:Program) (ops:Array Oper):Prop:=∀(j d t ty:Nat) (pos:String) (after:Array Edge) (gu:Option (Nat×Bool)),ops[j]? =some (⟨some d,.alloc t,ty,pos,after,gu⟩:Oper)→∃z zs,Zero P t z zs
def Fq (P:Program) (o:Oper):Bool:=match o.op with
 | .alloc t=>match P.info? t with
  |some i=>i.zero.isSome
  |none=>false
 |_=>true
theorem zZ {l:List Oper} (h:l.all (Fq P)=true):Lh P l.toArray:=by
 intro j d t ty pos after gu hj
 have hm:=List.all_eq_true.1 h _ (List.mem_of_getElem? (by simpa using hj))
 simp only[Fq]at hm
 cases hi:P.info? t with
 |none=>rw[hi]at hm;cases hm
 |some i=>
  rw[hi]at hm
  simp only at hm
  obtain⟨z,hz⟩:=Option.isSome_iff_exists.1 hm
  exact⟨z,_,by rw[hi];simp[hz],rfl⟩
theorem Ag {j:Nat} {o:Oper} (h:kp ops j=some o):∃(d t ty:Nat) (pos:String) (after:Array Edge),o=(⟨some d,.alloc t,ty,pos,after,none⟩:Oper)∧ops[j]? =some o:=by
 unfold kp at h
 cases ho:ops[j]? with
 |none=>rw[ho]at h;cases h
 |some o'=>
  rw[ho]at h
  simp only at h
  cases hb:(fG o'.op&&o'.guard.isNone&&o'.dst.isSome)with
  |false=>rw[hb]at h;cases h
  |true=>
   rw[hb]at h
   cases h
   obtain⟨dst,op,ty,pos,after,guard⟩:=o
   simp only[Bool.and_eq_true]at hb
   obtain⟨⟨h1,h2⟩,h3⟩:=hb
   cases op<;>try(cases h1;done)
   cases guard<;>try(cases h2;done)
   cases dst<;>try(cases h3;done)
   exact⟨_,_,_,_,_,rfl,rfl⟩
section sound
variable {R L:af} {B:Nat→Bool} {cp:Nat} {post Ew:List Nat}
def FB (P:Program) (n:fT) (w0:World) (ops:Array Oper) (Q:Exit→St→Prop) (D:List Deferred) (R L:af) (B:Nat→Bool) (cp:Nat) (post Ew:List Nat) (c:Bool) (m:Nat):Prop:=
 ∀(f k:Nat) (idx:List Nat) (ao:Array Bool) (e:Option Nat) (l:List Oper) (E:Env) (F:af) (a0 a:Act) (H:af) (w:World),
  ux ops B post m f k idx ao e=true→Ew.drop k=idx→idx.map (ops[·]?)=l.map some→DL P n w0 ops Q D R L B cp k c l E F→(c=true→cp≤k)→fV n E a0→a0.defers=D→Fv P n ops a0 (hp c R L F) e a H→Sat w0 w H→Down ops ao→j5 w0 ops R L post ao w→
  kS P ops (j1 (lift n w0 Q)) (j5 w0 ops R L post) f ao a w
theorem Bz (hz:Lh P ops) (rY:Region.noSelect ops=true) (Nl:post=(Ew.drop cp).filter (B0 ops)) (c:Bool) (Ot:c=false→∀m,FB P n w0 ops Q D R L B cp post Ew true m):∀m,FB P n w0 ops Q D R L B cp post Ew c m:=by
 have TQ:∀(c:List PanicEntry) (a:Act) (w:World),¬j1 (lift n w0 Q) (.panic c) a w:=fun _ _ _ h=>h
 have SX:∀j,j∈post→B0 ops j=true:=fun j hj=>by rw[Nl]at hj;exact(List.mem_filter.1 hj).2
 intro m
 induction m with
 |zero=>intro f k idx ao e l E F a0 a H w hc;cases hc
 |succ m ih=>
  intro f k idx ao e l E F a0 a H w hc hk qD hd PY hs hD he je uC hS
  -- a yW
  by_cases Dy:∃F',c=false∧k=cp∧F'=L*F∧DL P n w0 ops Q D R L B cp cp true l E F'
  ·obtain⟨F',rfl,rfl,rfl,Ov⟩:=Dy
   exact Ot rfl (m+1) f k idx ao e l E (L*F) a0 a H w hc hk qD Ov (fun _=>Nat.le_refl _) hs hD he je uC hS
  cases idx with
  |nil=>
   have hl:l=[]:=by simpa using qD.symm
   subst hl
   simp only[ux,Bool.and_eq_true]at hc
   obtain⟨XA,hr⟩:=hc
   cases he with
   |some _ _=>cases XA
   |none=>
    cases hd with
    |nil hH h=>exact uR (by simpa using hr) ⟨_,h,hs,hD,je.cast hH.symm⟩ f
    |yW h=>exact absurd ⟨_,rfl,rfl,rfl,h⟩ Dy
  |cons i r=>
   obtain⟨o,l,rfl,Lq,Q5⟩:∃o l',l=o::l'∧ops[i]? =some o∧r.map (ops[·]?)=l'.map some:=by
    cases l with
    |nil=>simp at qD
    |cons o l'=>simp only[List.map_cons,List.cons.injEq]at qD;exact⟨o,l',rfl,qD.1,qD.2⟩
   have VY:=qD
   clear qD
   have qD:=Q5
   have Cg:Ew.drop (k+1)=r:=by rw[←List.drop_drop,hk];rfl
   have AK:Ew[k]? =some i:=by
    have:=congrArg (·[0]?) hk
    simpa using this
   have JS:c=true→cp≤k+1:=fun h=>Nat.le_succ_of_le (PY h)
   have Pc:mD o.op=true→c=true→i∈post:=fun h1 h2=>by
    rw[Nl]
    refine List.mem_filter.2 ⟨?_,by simp[B0,Lq,h1]⟩
    refine List.mem_of_getElem? (i:=k - cp) ?_
    rw[List.getElem?_drop,show cp+(k - cp)=k by have:=PY h2;omega]
    exact AK
   have Hq:∀cs b,o.op≠ .select cs b:=fun cs b=>Region.noSelect_spec rY i o cs b Lq
   simp only[ux]at hc
   by_cases VV:e=some i
   · -- it has WV up earl
    subst VV
    simp only[beq_self_eq_true,cond_true]at hc
    cases he with
    | @some _ d t ty g pos after z zs hj pF=>
     rw[Lq]at hj
     cases hj
     cases hd with
     |q h1=>cases h1
     |qp h1=>cases h1
     |qs h1=>cases h1
     |skip h1=>cases h1
     |t _ h1=>cases h1
     |tq _ h1=>cases h1
     |yW h=>exact absurd ⟨_,rfl,rfl,rfl,h⟩ Dy
     |a gG Kf hn=>
      obtain rfl:_=zs:=Kf.cells.symm.trans ((congrArg jn (by
       obtain⟨i1,e1,e2⟩:=Option.map_eq_some_iff.1 Kf.eq
       obtain⟨i2,e3,e4⟩:=Option.map_eq_some_iff.1 pF.eq
       rw[e1]at e3;cases e3;rw[e2]at e4;exact Option.some.inj e4)).trans pF.cells)
      exact ih f (k+1) r ao none l _ _ _ _ _ w hc Cg qD (hn g) JS (hs.put _ gG) hD .none (je.cast (by cases c<;>simp only[hp,cond_true,cond_false]<;>ac_rfl)) uC hS
   ·have hb:(e==some i)=false:=by simpa using VV
    rw[hb]at hc
    simp only[cond_false]at hc
    cases f with
    |zero=>simp at hc
    |succ f=>
     rw[Lq]at hc
     simp only[Bool.and_eq_true]at hc
     obtain⟨Lk,hc⟩:=hc
     cases Lo:mD o.op with
     |false=>
      rw[Lo]at hc
      simp only[cond_false,Bool.and_eq_true]at hc
      obtain⟨⟨⟨⟨h1,h2⟩,h3⟩,TI⟩,h4⟩:=hc
      have Lj:i∈Region.ready .any ops ao:=by simpa using h2
      have OF:i∉post:=fun h=>by have:=SX i h;simp[B0,Lq,Lo]at this
      have take:∀(T:World→Prop) v,(∀ao w,Down ops ao→ao.getD i true=false→j5 w0 ops R L post ao w→T w)→YieldsIf P ops T o v a→
       (∀x:Act,x=a.put o.dst v→kS P ops (j1 (lift n w0 Q)) (j5 w0 ops R L post) f (ao.setIfInBounds i true) x w)→kS P ops (j1 (lift n w0 Q)) (j5 w0 ops R L post) (f+1) ao a w:=fun T v hT hy hn=>
       sU Lq rY TQ T hT (fun ao w h=>h.set i) (fun ao j w QY Q7 pZ hj h=>by
        obtain⟨F',h⟩:=h
        refine⟨F',?_⟩
        rw[Array.setIfInBounds_comm _ _ (Ne.symm pZ),FG OF]at h
        exact h) f ao a w uC (fun j oj OS pZ Qb zt=>Region.free_spec Lq h1 j oj OS pZ Qb zt) Lj hy hS (hn _ rfl)
      have main:∀(T:World→Prop) v,(∀ao w,Down ops ao→ao.getD i true=false→j5 w0 ops R L post ao w→T w)→gC n o.dst=true→YieldsIf P ops T o v a0→DL P n w0 ops Q D R L B cp (k+1) c l (E.hJ o.dst v) F→kS P ops (j1 (lift n w0 Q)) (j5 w0 ops R L post) (f+1) ao a w:=by
       intro T v hT gG hy hd
       cases he with
       |none=>exact take T v hT hy fun x hx=>by rw[hx];exact ih f (k+1) r _ none l _ _ _ _ _ w h4 Cg qD hd JS (hs.hJ _ _ gG) (by cases o.dst<;>exact hD) .none je (uC.set Lj) (hS.set i)
       | @some j d t ty g pos after z zs hj pF=>
        have xg:(⟨some d,.alloc t,ty,pos,after,none⟩:Oper).apart ops o=true:=by
         simpa [kp,hj,fG]using Lk
        obtain⟨p1,p2,p3⟩:=Oper.apart_spec xg
        have Ke:YieldsIf P ops T o v (a0.put (some d) (ptr g 0)):=hy.of_same (execOp_put o Hq a0 (some d) _ p1) (wanted_put o a0 (some d) _ p1)
        refine take T v hT Ke fun x hx=> ?_
        rw[hx,Act.put_comm a0 _ _ p2]
        exact ih f (k+1) r _ (some j) l _ _ _ _ _ w h4 Cg qD hd JS (hs.hJ _ _ gG) (by cases o.dst<;>exact hD) (.some hj pF) je (uC.set Lj) (hS.set i)
      cases hd with
      |q _ gG hg iZ hd=>
       obtain⟨b,hg⟩:=hg
       exact main (fun w=>∃F',Sat w0 w (R*F')) _ (fun _ _ _ _ h=>h.read) gG (.inl ⟨by rw[kl hs hg];simp,fun w hw=>by obtain⟨F',hw⟩:=hw;exact iZ F' a0 w hs hw⟩) hd
      |qp _ gG hB hg iZ hd=>
       obtain⟨b,hg⟩:=hg
       rw[hB]at h3
       simp only[Bool.not_true,Bool.false_or]at h3
       refine main (fun w=>∃F',Sat w0 w (R*(L*F'))) _ (fun ao w QY Q7 h=> ?_) gG (.inl ⟨by rw[kl hs hg];simp,fun w hw=>by obtain⟨F',hw⟩:=hw;exact iZ F' a0 w hs hw⟩) hd
       obtain⟨F',h⟩:=h
       have:post.any (fun j=>ao.getD j false)=false:=by
        rw[←Bool.not_eq_true,List.any_eq_true]
        rintro⟨j,hj,hl⟩
        have Ug:=List.all_eq_true.1 h3 j hj
        rw[rO QY Q7 j (by simpa using Ug)]at hl
        cases hl
       rw[this]at h
       exact⟨F',h⟩
      |qs _ gG hB hg iZ hd=>
       obtain⟨b,hg⟩:=hg
       rw[hB]at TI
       simp only[Bool.not_true,Bool.false_or,Bool.and_eq_true,Option.isNone_iff_eq_none]at TI
       obtain⟨rfl,l9⟩:=TI
       cases he with
       |none=>
        refine⟨fun h0=>(by rw[h0]at Lj;cases Lj),fun j hj=> ?_⟩
        obtain rfl:j=i:=by simpa using List.all_eq_true.1 l9 j hj
        have hy:YieldsIf P ops (fun w=>Sat w0 w (hp c R L F)) o _ a0:= .inl ⟨by rw[kl hs hg];simp,fun w hw=>iZ a0 w hs hw⟩
        exact hy.wpOp Lq je ⟨hS.set j,ih f (k+1) r _ none l _ _ _ _ _ w h4 Cg qD hd JS (hs.hJ _ _ gG) (by cases o.dst<;>exact hD) .none je (uC.set Lj) (hS.set j)⟩
      |skip _ gG hg hd=>exact main (fun _=>True) _ (fun _ _ _ _ _=>trivial) gG (.inr ⟨by rw[kl hs hg];simp,rfl⟩) hd
      |t h1=>rw[Lo]at h1;cases h1
      |tq h1=>rw[Lo]at h1;cases h1
      |a=>cases Lo
      |yW h=>exact absurd ⟨_,rfl,rfl,rfl,h⟩ Dy
     |true=>
      rw[Lo]at hc
      simp only[cond_true,Bool.and_eq_true]at hc
      obtain⟨⟨h1,h2⟩,h3⟩:=hc
      have VZ:i∈Region.ready .any ops ao:=by simpa using h1
      have mi:Region.ready .any ops ao≠[]:=by intro h0;rw[h0]at h1;cases h1
      refine⟨fun h0=>absurd h0 mi,fun j hj=> ?_⟩
      have VI:=List.all_eq_true.1 h3 j hj
      by_cases pZ:j=i
      ·subst pZ
       -- behind it
       have step:∀(v:Value) (F':af),gC n o.dst=true→DL P n w0 ops Q D R L B cp (k+1) c l (E.hJ o.dst v) F'→∀(x:Act) (w':World) (X:af),Fv P n ops (a0.put o.dst v) (hp c R L F') e x X→Sat w0 w' X→
        j5 w0 ops R L post (ao.setIfInBounds j true) w'∧kS P ops (j1 (lift n w0 Q)) (j5 w0 ops R L post) f (ao.setIfInBounds j true) x w':=by
        intro v F' gG hd x w' X Mi J9
        have Cf:j5 w0 ops R L post (ao.setIfInBounds j true) w':=by
         have hX:∃F2,Sat w0 w' (hp c R L F2):=by
          cases Mi with
          |none=>exact⟨_,J9⟩
          | @some _ _ t' _ g' _ _ _ Vs _ _=>exact⟨aK g' t' Vs*F',J9.cast (by cases c<;>simp only[hp,cond_true,cond_false]<;>ac_rfl)⟩
         obtain⟨F2,hX⟩:=hX
         cases vR:c with
         |false=>rw[vR]at hX;exact .whole hX
         |true=>
          rw[vR]at hX
          refine .Py (List.any_eq_true.2 ⟨j,Pc Lo vR,?_⟩) hX
          have bW:j<ao.size:=by
           have:=(mem_ready.1 VZ).1
           rcases Nat.lt_or_ge j ao.size with h|h
           ·exact h
           ·simp[Array.getElem?_eq_none h]at this
          simp[bW]
        exact⟨Cf,ih f (k+1) r _ e l _ _ _ _ _ w' h2 Cg qD hd JS (hs.hJ _ _ gG) (by cases o.dst<;>exact hD) Mi J9 (uC.set VZ) Cf⟩
       unfold wpOp
       rw[Lq]
       have Le:∀c b,fO ops E o=some (c,b)→Region.wanted o (yielded ops a.tmps)=(c==b):=by
        intro c b hg
        cases he with
        |none=>exact kl hs hg
        | @some j' d t ty g pos after z zs qF pF=>
         have xg:(⟨some d,.alloc t,ty,pos,after,none⟩:Oper).apart ops o=true:=by
          simpa [kp,qF,fG]using Lk
         obtain⟨p1,p2,p3⟩:=Oper.apart_spec xg
         rw[wanted_put o a0 (some d) _ p1];exact kl hs hg
       cases hd with
       |q h1=>rw[Lo]at h1;cases h1
       |qp h1=>rw[Lo]at h1;cases h1
       |qs h1=>rw[Lo]at h1;cases h1
       |yW h=>exact absurd ⟨_,rfl,rfl,rfl,h⟩ Dy
       | @skip _ _ _ _ _ _ b _ gG hg hd=>
        have hw:=Le _ _ hg
        simp only[hw]
        rw[if_neg (by simp)]
        cases he with
        |none=>exact step _ _ gG hd _ _ _ .none je
        | @some j' d t ty g pos after z zs qF pF=>
         have xg:(⟨some d,.alloc t,ty,pos,after,none⟩:Oper).apart ops o=true:=by
          simpa [kp,qF,fG]using Lk
         obtain⟨p1,p2,p3⟩:=Oper.apart_spec xg
         rw[Act.put_comm a0 _ _ p2]
         exact step _ _ gG hd _ _ _ (.some qF pF) je
       | @t _ _ _ _ _ _ F' α pre v mr _ _ gG hg iZ hF hd=>
        obtain⟨b,hg⟩:=hg
        have hw:=Le _ _ hg
        simp only[hw]
        rw[if_pos (by simp)]
        refine .inl ?_
        cases he with
        |none=>
         refine iZ (hp c R L F') a0 w _ _ hs (je.cast (by rw[hF];cases c<;>simp only[hp,cond_true,cond_false]<;>ac_rfl)) fun x w' eI=> ?_
         exact step _ _ gG (hd x) _ _ _ .none (eI.cast (by cases c<;>simp only[hp,cond_true,cond_false]<;>ac_rfl))
        | @some j' d t ty g pos after z zs qF pF=>
         have xg:(⟨some d,.alloc t,ty,pos,after,none⟩:Oper).apart ops o=true:=by
          simpa [kp,qF,fG]using Lk
         refine Lg xg Hq TQ ?_
         refine iZ (aK g t zs*hp c R L F') a0 w _ _ hs (je.cast (by rw[hF];cases c<;>simp only[hp,cond_true,cond_false]<;>ac_rfl)) fun x w' eI=> ?_
         exact step _ _ gG (hd x) _ _ _ (.some qF pF) (eI.cast (by cases c<;>simp only[hp,cond_true,cond_false]<;>ac_rfl))
       | @tq _ _ _ _ _ _ v _ _ gG hg iZ hd=>
        obtain⟨b,hg⟩:=hg
        have hw:=Le _ _ hg
        simp only[hw]
        rw[if_pos (by simp)]
        refine .inl ?_
        cases he with
        |none=>exact iZ F a0 w _ _ hs je fun w' eI=>step _ _ gG hd _ _ _ .none eI
        | @some j' d t ty g pos after z zs qF pF=>
         have xg:(⟨some d,.alloc t,ty,pos,after,none⟩:Oper).apart ops o=true:=by
          simpa [kp,qF,fG]using Lk
         refine Lg xg Hq TQ ?_
         refine iZ (aK g t zs*F) a0 w _ _ hs (je.cast (by cases c<;>simp only[hp,cond_true,cond_false]<;>ac_rfl)) fun w' eI=> ?_
         exact step _ _ gG hd _ _ _ (.some qF pF) (eI.cast (by cases c<;>simp only[hp,cond_true,cond_false]<;>ac_rfl))
       | @a _ _ d t ty pos after _ _ _ z zs gG Kf hn=>
        simp only
        rw[if_pos (by rfl)]
        refine .inl ?_
        unfold Oper.wp
        rw[nK a.eval w Kf,Oper.upon_value]
        cases he with
        |none=>
         exact step _ _ gG (hn _) _ _ _ .none ((je.new t zs.toArray).cast (by show aK _ _ _*_=_;cases c<;>simp only[hp,cond_true,cond_false]<;>ac_rfl))
        | @some j' d' t' YP g' pos' N1 z' Vs qF pF=>
         have xg:(⟨some d',.alloc t',YP,pos',N1,none⟩:Oper).apart ops (⟨some d,.alloc t,ty,pos,after,none⟩:Oper)=true:=by
          simpa [kp,qF,fG]using Lk
         obtain⟨p1,p2,p3⟩:=Oper.apart_spec xg
         have:=step (ptr w.heap.size 0) _ gG (hn w.heap.size) _ _ _ (.some (g:=g') qF pF) ((je.new t zs.toArray).cast (by show aK _ _ _*_=aK g' t' Vs*_;cases c<;>simp only[hp,cond_true,cond_false]<;>ac_rfl))
         rw[Act.put_comm a0 _ _ p2]
         exact this
      · -- an N4 comes up earl
       simp only[Bool.or_eq_true,beq_iff_eq,pZ,false_or,Bool.and_eq_true]at VI
       obtain⟨⟨e1,e2⟩,e3⟩:=VI
       obtain⟨oj,e2⟩:=Option.isSome_iff_exists.1 e2
       obtain⟨d,t,ty,pos,after,rfl,qF⟩:=Ag e2
       obtain⟨z,zs,pF⟩:=hz j d t ty pos after none qF
       cases he with
       |some _ _=>cases e1
       |none=>
        unfold wpOp
        rw[qF]
        simp only
        rw[if_pos (by rfl)]
        refine .inl ?_
        unfold Oper.wp
        rw[nK _ w pF,Oper.upon_value]
        have hn:=je.new t zs.toArray
        have hh:j5 w0 ops R L post (ao.setIfInBounds j true) (w.alloc (.cells zs.toArray t)):=by
         refine j5.set ?_ j
         obtain⟨F',h⟩:=hS
         refine⟨Oc w.heap.size t zs.toArray*F',?_⟩
         have:=h.new t zs.toArray
         cases hb:post.any (fun j=>ao.getD j false)with
         |true=>rw[hb]at this;exact this.cast (by simp only[cond_true];ac_rfl)
         |false=>rw[hb]at this;exact this.cast (by simp only[cond_false];ac_rfl)
        exact⟨hh,ih f k (i::r) _ (some j) (o::l) E F a0 _ _ _ e3 hk (by simp[Lq,qD]) hd PY hs hD (.some qF pF) hn (uC.set hj) hh⟩
end sound
theorem wX (m:Nat):Down ops (Array.replicate m false):=by
 intro j o hj hl
 exfalso
 by_cases h:j<m<;>simp[h]at hl
theorem Iv {ro:Option Nat} {Q:Exit→Act→World→Prop} {i:Nat} {K K':Act→World→Prop} {a:Act} {w:World} (xm:∀(j:Nat) (o:Oper),ops[j]? =some o→∀c,o.op≠Op.defer c) (hQ:¬LetsOut Q) (hK:∀a w,K a w→K' a w) (h:wpOp P ops Q i K a w):wpOpIn (uW ro) 0 P ops Q i K' a w:=by
 unfold wpOp at h
 unfold Go.wpOpIn
 cases ho:ops[i]? with
 |none=>rw[ho]at h;exact hK _ _ h
 |some o=>
  rw[ho]at h
  simp only at h ⊢
  by_cases hw:Region.wanted o (yielded ops a.tmps)=true
  ·rw[if_pos hw]at h ⊢
   rcases h with h|h
   ·exact jB (.inr (xm i o ho)) (Oper.wp_mono hK h)
   ·exact absurd h.2 hQ
  ·rw[if_neg hw]at h ⊢
   exact⟨fun _ _=>trivial,hK _ _ h⟩
theorem qV {ro:Option Nat} {md:Region.Mode} {Q:Exit→Act→World→Prop} (xm:∀(j:Nat) (o:Oper),ops[j]? =some o→∀c,o.op≠Op.defer c) (hQ:¬LetsOut Q):∀(f:Nat) (ao:Array Bool) (a:Act) (w:World),wpAny P md ops Q f ao a w→wpAnyIn (uW ro) 0 P md ops Q f ao a w
 |0,_,_,_,h=>h
 |f+1,_,_,_,h=>⟨h.1,fun i hi=>Iv xm hQ (fun a w h=>qV xm hQ f _ a w h) (h.2 i hi)⟩
def F8:Op→Bool
 | .defer _=>true
 |_=>false
def iT (P:Program) (l:List Oper) (idx:List Nat) (B:Nat→Bool) (cp:Nat):Bool:=
 (l.all fun o=> !F8 o.op)&&P.follows .mixedOrders&&l.all (Fq P)&&Region.noSelect l.toArray&&ux l.toArray B ((idx.drop cp).filter (B0 l.toArray)) (4*l.length+4) l.length 0 idx (Array.replicate l.length false) none
theorem iK {id:Nat} (idx:List Nat) (l':List Oper) (R L F:af) (B:Nat→Bool) (cp:Nat) (hs:iT P l idx B cp=true) (hH:H=R*(L*F)) (hl:idx.map (l[·]?)=l'.map some) (h:DL P n w0 l.toArray Q D R L B cp 0 false l' E F):WS P n w0 (.region id l.toArray true) Q ⟨E,D,H⟩:=fun a w g=>by
 simp only[iT,Bool.and_eq_true]at hs
 obtain⟨⟨⟨⟨xm,hm⟩,hz⟩,rY⟩,hc⟩:=hs
 have hd:Sat w0 w.drew (R*(L*F)):=(g.sat.cast hH).drew
 have h1:=Bz (n:=n) (w0:=w0) (Q:=Q) (D:=D) (R:=R) (L:=L) (B:=B) (cp:=cp) (zZ hz) rY rfl false (fun _=>Bz (zZ hz) rY rfl true (fun h=>by cases h)) _ _ 0 idx _ none l' E F a a _ w.drew hc (by simp) (by rw[←hl];simp) h (fun h=>by cases h) g.dQ g.defers .none hd (wX _) (.whole hd)
 have h2:=qW _ _ _ _ h1
 have OQ:∀(j:Nat) (o:Oper),l.toArray[j]? =some o→∀c,o.op≠Op.defer c:=fun j o hj c hc=>by
  have:=List.all_eq_true.1 xm o (List.mem_of_getElem? (by simpa using hj))
  rw[hc]at this;cases this
 have mZ:¬LetsOut (j1 (lift n w0 Q)):=fun⟨_,_,h⟩=>h
 have h3:=wpIn_region_any (id:=id) (F:=uW n.round) (n:=0) hm (by rw[List.size_toArray];exact qV OQ mZ _ _ _ _ h2)
 exact Code.wpIn_mono (fun e a w h=>by cases e<;>first|exact h|exact(h:False).elim) h3
theorem HR (l:List Oper):(List.range l.length).map (l[·]?)=l.map some:=by
 apply List.ext_getElem?
 intro i
 simp only[List.getElem?_map]
 by_cases hi:i<l.length
 ·simp[hi]
 ·simp[List.getElem?_eq_none (by simpa using hi:(List.range l.length).length≤i),List.getElem?_eq_none (by simpa using hi:l.length≤i)]
theorem I8 {id:Nat} (R L F:af) (B:Nat→Bool) (cp:Nat) (hs:iT P l (List.range l.length) B cp=true) (hH:H=R*(L*F)) (h:DL P n w0 l.toArray Q D R L B cp 0 false l E F):WS P n w0 (.region id l.toArray true) Q ⟨E,D,H⟩:=
 iK _ l R L F B cp hs hH (HR l) h
def Jy:List Oper→Nat
 |[]=>0
 |o::r=>bif mD o.op then 0 else Jy r+1
theorem bl:F*emp=F:=by rw[nt,aB]
theorem mO {id:Nat} (hs:iT P l (List.range l.length) (fun k=>Nat.blt k (Jy l)) (Jy l)=true) (h:DL P n w0 l.toArray Q D emp H (fun k=>Nat.blt k (Jy l)) (Jy l) 0 false l E emp):WS P n w0 (.region id l.toArray true) Q ⟨E,D,H⟩:=
 I8 emp H emp _ _ hs (by rw[bl,aB]) h
theorem By {L R:af} {B:Nat→Bool} {k cp:Nat} {F':af} (hk:k=cp) (hF:F'=L*F) (h:DL P n w0 ops Q D R L B cp k true l E F'):DL P n w0 ops Q D R L B cp k false l E F:=by
 subst hk;subst hF;exact .yW h
theorem GB {R L:af} {B:Nat→Bool} {k cp:Nat} (hk:Nat.beq k cp=true) (h:DL P n w0 ops Q D R L B cp k true l E L):DL P n w0 ops Q D R L B cp k false l E emp:=By (Nat.eq_of_beq_eq_true hk) bl.symm h
theorem LI {B:Nat→Bool} {k cp:Nat} {L:af} (h:Q .normal ⟨E,D,F⟩):DL P n w0 ops Q D emp L B cp k true [] E F:= .nil (by simp only[hp,cond_true];rw[aB]) h
theorem LG {B:Nat→Bool} {k cp:Nat} {L:af} (h:Q .normal ⟨E,D,L⟩):DL P n w0 ops Q D emp L B cp k false [] E emp:= .nil (by simp only[hp,cond_false];rw[aB,bl]) h
end
section
open Go.RowKit
variable {P:Program} {n:fT} {w0:World} {E:Env} {D:List Deferred} {H F R:af} {ops:Array Oper} {l:List Oper} {Q:Exit→St→Prop} {o:Oper}
def cn (P:Program) (n:fT) (w0:World) (o:Oper) (E:Env) (H:af) {α:Type} (v:α→Value) (post:α→af):Prop:=
 ∃(pre:af) (zK:α→af) (F:af),eM P n w0 o E pre v zK∧H=pre*F∧∀x,post x=zK x*F
theorem cn.mk' {α:Type} {pre:af} {v:α→Value} {post:α→af} (h:eM P n w0 o E pre v post) (hH:H=pre*F):cn P n w0 o E H v (fun x=>post x*F):=⟨pre,post,F,h,hH,fun _=>rfl⟩
section front
variable {d:Nat} {op:Op} {ty:TypeId} {pos:String} {after:Array Edge} {L:af} {B:Nat→Bool} {k cp:Nat} {c:Bool} {α:Type} {v:α→Value} {post:α→af} {gu:Option (Nat×Bool)} {u:Value}
theorem M3 (h:cn P n w0 o E H v post) (hd:gC n o.dst=true) (hg:o.guard=none)
 (hn:∀x,LS P n w0 ops Q l ⟨E.hJ o.dst (v x),D,post x⟩):LS P n w0 ops Q (o::l) ⟨E,D,H⟩:=by
 obtain⟨pre,zK,F,iZ,hH,hp⟩:=h
 exact To iZ hH hd hg fun x=>by rw[←hp];exact hn x
theorem ai (h:cn P n w0 ⟨some d,op,ty,pos,after,none⟩ E H v post) (hd:Nat.blt d n.tmps=true) (hn:∀x,LS P n w0 ops Q l ⟨(d,v x)::E,D,post x⟩):LS P n w0 ops Q (⟨some d,op,ty,pos,after,none⟩::l) ⟨E,D,H⟩:=M3 h hd rfl hn
theorem bL (h:cn P n w0 ⟨none,op,ty,pos,after,none⟩ E H v post) (hn:∀x,LS P n w0 ops Q l ⟨E,D,post x⟩):LS P n w0 ops Q (⟨none,op,ty,pos,after,none⟩::l) ⟨E,D,H⟩:=M3 h rfl rfl hn
theorem IH (h:cn P n w0 o E F v post) (he:mD o.op=true) (ha:fG o.op=false) (hd:gC n o.dst=true) (hg:∃b,fO ops E o=some (b,b))
 (hn:∀x,DL P n w0 ops Q D R L B cp (k+1) c l (E.hJ o.dst (v x)) (post x)):DL P n w0 ops Q D R L B cp k c (o::l) E F:=by
 obtain⟨pre,zK,F,iZ,hH,hp⟩:=h
 exact .t he ha hd hg iZ hH fun x=>by rw[←hp];exact hn x
theorem aD (h:cn P n w0 ⟨some d,op,ty,pos,after,none⟩ E F v post) (he:mD op=true) (ha:fG op=false) (hd:Nat.blt d n.tmps=true)
 (hn:∀x,DL P n w0 ops Q D R L B cp (k+1) c l ((d,v x)::E) (post x)):DL P n w0 ops Q D R L B cp k c (⟨some d,op,ty,pos,after,none⟩::l) E F:=IH h he ha hd ⟨true,rfl⟩ hn
theorem dP (h:cn P n w0 ⟨none,op,ty,pos,after,none⟩ E F v post) (he:mD op=true) (ha:fG op=false)
 (hn:∀x,DL P n w0 ops Q D R L B cp (k+1) c l E (post x)):DL P n w0 ops Q D R L B cp k c (⟨none,op,ty,pos,after,none⟩::l) E F:=IH h he ha rfl ⟨true,rfl⟩ hn
theorem bk (he:mD op=false) (hd:Nat.blt d n.tmps=true) (iZ:∀F',cD P n w0 ⟨some d,op,ty,pos,after,none⟩ E (R*F') u) (h:DL P n w0 ops Q D R L B cp (k+1) c l ((d,u)::E) F):DL P n w0 ops Q D R L B cp k c (⟨some d,op,ty,pos,after,none⟩::l) E F:= .q he hd ⟨true,rfl⟩ iZ h
theorem bP (he:mD op=false) (hd:Nat.blt d n.tmps=true) (hB:B k=true) (iZ:∀F',cD P n w0 ⟨some d,op,ty,pos,after,none⟩ E (R*(L*F')) u) (h:DL P n w0 ops Q D R L B cp (k+1) false l ((d,u)::E) F):DL P n w0 ops Q D R L B cp k false (⟨some d,op,ty,pos,after,none⟩::l) E F:= .qp he hd hB ⟨true,rfl⟩ iZ h
theorem gM {j:Nat} {b:Bool} (hg:fO ops E ⟨some d,op,ty,pos,after,some (j,b)⟩=some (b,b)) (he:mD op=false) (hd:Nat.blt d n.tmps=true) (iZ:∀F',cD P n w0 ⟨some d,op,ty,pos,after,some (j,b)⟩ E (R*F') u) (h:DL P n w0 ops Q D R L B cp (k+1) c l ((d,u)::E) F):DL P n w0 ops Q D R L B cp k c (⟨some d,op,ty,pos,after,some (j,b)⟩::l) E F:= .q he hd ⟨b,hg⟩ iZ h
theorem II {j:Nat} {b:Bool} (hg:fO ops E ⟨some d,op,ty,pos,after,some (j,b)⟩=some (b,b)) (he:mD op=false) (hd:Nat.blt d n.tmps=true) (hB:B k=true) (iZ:∀F',cD P n w0 ⟨some d,op,ty,pos,after,some (j,b)⟩ E (R*(L*F')) u) (h:DL P n w0 ops Q D R L B cp (k+1) false l ((d,u)::E) F):DL P n w0 ops Q D R L B cp k false (⟨some d,op,ty,pos,after,some (j,b)⟩::l) E F:= .qp he hd hB ⟨b,hg⟩ iZ h
theorem MY {j:Nat} {b:Bool} (hg:fO ops E ⟨some d,op,ty,pos,after,some (j,b)⟩=some (b,b)) (h:cn P n w0 ⟨some d,op,ty,pos,after,some (j,b)⟩ E F v post) (he:mD op=true) (ha:fG op=false) (hd:Nat.blt d n.tmps=true)
 (hn:∀x,DL P n w0 ops Q D R L B cp (k+1) c l ((d,v x)::E) (post x)):DL P n w0 ops Q D R L B cp k c (⟨some d,op,ty,pos,after,some (j,b)⟩::l) E F:=IH h he ha hd ⟨b,hg⟩ hn
theorem LJ {j:Nat} {b b':Bool} (hg:fO ops E ⟨some d,op,ty,pos,after,some (j,b)⟩=some (b',b)) (hb:b'= !b) (ha:fG op=false) (hd:Nat.blt d n.tmps=true) (h:DL P n w0 ops Q D R L B cp (k+1) c l ((d,undef)::E) F):DL P n w0 ops Q D R L B cp k c (⟨some d,op,ty,pos,after,some (j,b)⟩::l) E F:=
 .skip (b:= !b) ha hd (by rw[hg,hb];simp) h
theorem aL {t:TypeId} {z:Value} {zs:List Value} (hz:Zero P t z zs) (hd:Nat.blt d n.tmps=true) (hn:∀g,DL P n w0 ops Q D R L B cp (k+1) c l ((d,ptr g 0)::E) (aK g t zs*F)):DL P n w0 ops Q D R L B cp k c (⟨some d,.alloc t,ty,pos,after,none⟩::l) E F:= .a hd hz hn
theorem dn {Q:Exit→St→Prop} {ops:Array Oper} {l:List Oper} {d:Nat} {ty:TypeId} {pos:String} {after:Array Edge} {op:BinOp} {t t2:TypeId} {x y:Operand} {v u:Value} {q:Prop} {inst:Decidable q} (hx:E.ev x=some v) (hy:E.ev y=some u) (h:dL P op t v u (.bool (decide q))) (hd:Nat.blt d n.tmps=true)
 (h1:q→LS P n w0 ops Q l ⟨(d,.bool true)::E,D,H⟩) (h2:¬q→LS P n w0 ops Q l ⟨(d,.bool false)::E,D,H⟩):LS P n w0 ops Q (⟨some d,.binOp op t x y t2,ty,pos,after,none⟩::l) ⟨E,D,H⟩:=by
 by_cases hq:q
 ·exact lI (bp hx hy h hq) hd (h1 hq)
 ·exact lI (bH hx hy h hq) hd (h2 hq)
theorem dm {Q:Exit→St→Prop} {ops:Array Oper} {l:List Oper} {d:Nat} {ty:TypeId} {pos:String} {after:Array Edge} {op:BinOp} {t t2:TypeId} {x y:Operand} {v u:Value} {q:Prop} {inst:Decidable q} (hx:E.ev x=some v) (hy:E.ev y=some u) (h:dL P op t v u (.bool (!decide q))) (hd:Nat.blt d n.tmps=true)
 (h1:q→LS P n w0 ops Q l ⟨(d,.bool false)::E,D,H⟩) (h2:¬q→LS P n w0 ops Q l ⟨(d,.bool true)::E,D,H⟩):LS P n w0 ops Q (⟨some d,.binOp op t x y t2,ty,pos,after,none⟩::l) ⟨E,D,H⟩:=by
 by_cases hq:q
 ·exact lI (du hx hy h hq) hd (h1 hq)
 ·exact lI (fC hx hy h hq) hd (h2 hq)
theorem dU {Q:Exit→St→Prop} {ops:Array Oper} {R L:af} {B:Nat→Bool} {cp k:Nat} {c:Bool} {l:List Oper} {d:Nat} {ty:TypeId} {pos:String} {after:Array Edge} {op:BinOp} {t t2:TypeId} {x y:Operand} {v u:Value} {b:Bool} (hx:E.ev x=some v) (hy:E.ev y=some u) (h:dL P op t v u (.bool b)) (hd:Nat.blt d n.tmps=true)
 (h1:b=true→DL P n w0 ops Q D R L B cp (k+1) c l ((d,.bool true)::E) F) (h2:b=false→DL P n w0 ops Q D R L B cp (k+1) c l ((d,.bool false)::E) F):DL P n w0 ops Q D R L B cp k c (⟨some d,.binOp op t x y t2,ty,pos,after,none⟩::l) E F:=by
 cases b
 ·exact .q rfl hd ⟨true,rfl⟩ (fun F'=>bE hx hy h) (h2 rfl)
 ·exact .q rfl hd ⟨true,rfl⟩ (fun F'=>bE hx hy h) (h1 rfl)
theorem M0 (he:mD op=true) (ha:fG op=false) (hd:Nat.blt d n.tmps=true) (iZ:∀F',cv P n w0 ⟨some d,op,ty,pos,after,none⟩ E (hp c R L F') u) (h:DL P n w0 ops Q D R L B cp (k+1) c l ((d,u)::E) F):DL P n w0 ops Q D R L B cp k c (⟨some d,op,ty,pos,after,none⟩::l) E F:= .tq he ha hd ⟨true,rfl⟩ iZ h
end front
section ops
variable {d:Option Tmp} {ty:TypeId} {pos:String} {after:Array Edge} {gu:Option (Nat×Bool)} {x y:Operand} {v u:Value}
theorem Qu {f:Nat→Value} {t:TypeId} {cs:List Value} (h:∀a w,fV n E a→(execOp a.eval o).run P w= .ok (.value (f w.heap.size)) (w.alloc (.cells cs.toArray t))):eM P n w0 o E emp f (fun g=>aK g t cs):=fun G a w K Q s hs hK=>by
 unfold Oper.wp
 rw[h a w s]
 rw[aB]at hs
 exact hK _ _ (hs.new t cs.toArray)
theorem Fy {f:Nat→Value} {t:TypeId} {cs:List Value} (h:∀a w,fV n E a→(execOp a.eval o).run P w= .ok (.value (f w.heap.size)) (w.alloc (.cells cs.toArray t))):cn P n w0 o E H f (fun g=>aK g t cs*H):=cn.mk' (Qu h) aB.symm
theorem ph {t:TypeId} {z:Value} {zs:List Value} (hz:Zero P t z zs):cn P n w0 ⟨d,.alloc t,ty,pos,after,gu⟩ E H (fun g=>ptr g 0) (fun g=>aK g t zs*H):=Fy fun a w s=>nK a.eval w hz
theorem rj {t:TypeId} {vs:List Value} (hx:E.ev x=some (.agg vs.toArray)):cn P n w0 ⟨d,.box t x,ty,pos,after,gu⟩ E H (fun g=>ptr g 0) (fun g=>aK g t vs*H):=Fy fun a w s=>by
 simp[execOp,s.ev hx,Instr.box,newVar,newRow,Value.cells]
def j4 (zs:List Value):Nat→List Value
 |0=>[]
 |k+1=>zs++j4 zs k
def Md (size:Nat):List Value→List (Nat×List Value)→Option (List Value)
 |cs,[]=>some cs
 |cs,(i,vs)::r=>match iW cs (i*size) vs with
  |some nv=>Md size nv r
  |none=>none
def Env.parts (E:Env):List (Nat×Operand)→Option (List (Nat×List Value))
 |[]=>some []
 |(i,x)::r=>match E.ev x,Env.parts E r with
  |some v,some vs=>some ((i,jn v)::vs)
  |_,_=>none
def Env.kh (E:Env):List (Nat×Operand)→Option (List (Nat×Value))
 |[]=>some []
 |(i,x)::r=>match E.ev x,Env.kh E r with
  |some v,some vs=>some ((i,v)::vs)
  |_,_=>none
theorem fV.kh {a:Act} (h:fV n E a):∀{xs:List (Nat×Operand)} {vs:List (Nat×Value)},E.kh xs=some vs→xs.map (fun p=>(p.1,a.eval p.2))=vs
 |[],vs,e=>by cases e;rfl
 |(i,x)::r,vs,e=>by
  simp only[Env.kh]at e
  split at e
  ·rename_i v us e1 e2
   cases e
   simp[h.ev e1,fV.kh h e2]
  ·cases e
def Gi (P:Program) (t:TypeId):Option (List (Nat×Nat)):=
 match P.underlying t with
 |some (.struct fs)=>fs.toList.mapM (fun f=>(P.info? f.type).map fun i=>(f.offset,i.size))
 |_=>none
class ee (P:Program) (t:TypeId) (ps:outParam (List (Nat×Nat))):Prop where
 eq:Gi P t=some ps
theorem ee.ex {P:Program} {t:TypeId} {ps:List (Nat×Nat)} (h:ee P t ps):∃fs,P.underlying t=some (.struct fs)∧fs.toList.mapM (fun f=>(P.info? f.type).map fun i=>(f.offset,i.size))=some ps:=by
 have:=h.eq
 unfold Gi at this
 split at this
 ·rename_i fs hu;exact⟨fs,hu,this⟩
 ·cases this
def JM:List (Nat×Nat)→Nat→Option (Nat×Nat)
 |[],_=>none
 |p::_,0=>some p
 |_::r,i+1=>JM r i
def Ao (ps:List (Nat×Nat)):List Value→List (Nat×Value)→Option (List Value)
 |cs,[]=>some cs
 |cs,(i,v)::r=>match JM ps i with
  |some (off,size)=>bif Nat.beq (jn v).length size then match iW cs off (jn v)with
   |some nv=>Ao ps nv r
   |none=>none
   else none
  |none=>none
theorem FR:∀(ps:List (Nat×Nat)) (i:Nat),JM ps i=ps[i]?
 |[],i=>by simp[JM]
 |v::r,0=>rfl
 |v::r,i+1=>by simp[JM,FR r i]
theorem foldl_set (vs:List Value):∀(k off:Nat) (cs:Array Value),off+k+vs.length≤cs.size→
 ((vs.zipIdx k).foldl (fun cs (c,j)=>cs.setIfInBounds (off+j) c) cs).toList=cs.toList.take (off+k)++vs++cs.toList.drop (off+k+vs.length):=by
 induction vs with
 |nil=>intro k off cs h;simp
 |cons v vs ih=>
  intro k off cs h
  simp only[List.zipIdx_cons,List.foldl_cons]
  rw[ih (k+1) off _ (by simp at h ⊢;omega)]
  simp only[List.length_cons]at h
  rw[Array.toList_setIfInBounds,List.take_set,List.drop_set,if_pos (by omega)]
  have e1:(cs.toList.take (off+(k+1))).set (off+k) v=cs.toList.take (off+k)++[v]:=by
   rw[List.set_eq_take_append_cons_drop,if_pos (by simp;omega)]
   simp[List.take_take,List.drop_take,show min (off+k) (off+(k+1))=off+k by omega]
   omega
  rw[e1]
  simp[show off+(k+1)+vs.length=off+k+(vs.length+1) by omega]
theorem fill_eq (ps:List (Nat×Nat)):∀(parts:List (Nat×Value)) (cs r:List Value),Ao ps cs parts=some r→Instr.fill (ps.toArray[·]?) cs.toArray parts=some r.toArray
 |[],cs,r,h=>by cases h;rfl
 |(i,v)::parts,cs,r,h=>by
  simp only[Ao,FR]at h
  cases hp:ps[i]? with
  |none=>rw[hp]at h;cases h
  |some p=>
   obtain⟨off,size⟩:=p
   rw[hp]at h
   simp only at h
   cases hs:Nat.beq (jn v).length size with
   |false=>rw[hs]at h;cases h
   |true=>
    rw[hs]at h
    simp only[cond_true]at h
    cases hq:iW cs off (jn v)with
    |none=>rw[hq]at h;cases h
    |some nv=>
     rw[hq]at h
     simp only at h
     obtain⟨hle,zm⟩:=np hq
     have rZ:v.cells.size=size:=by rw[gX];simpa using Nat.eq_of_beq_eq_true hs
     have JU:((v.cells.zipIdx).foldl (fun cs (c,j)=>cs.setIfInBounds (off+j) c) cs.toArray)=nv.toArray:=by
      apply Array.ext'
      have:=foldl_set (jn v) 0 off cs.toArray (by simpa using hle)
      rw[←Array.foldl_toList]
      simp only[gX]
      simpa [zm]using this
     have qZ:ps.toArray[i]? =some (off,size):=by simp[hp]
     unfold Instr.fill
     rw[qZ]
     simp only
     rw[if_neg (by
      rw[gX]at rZ ⊢
      simp only[List.size_toArray]at rZ ⊢
      simp[rZ];omega),JU]
     exact fill_eq ps parts nv r h
theorem LP {t:TypeId} {parts:List (Nat×Operand)} {vs:List (Nat×Value)} {ps:List (Nat×Nat)} {z:Value} {zs cs:List Value} (hz:Zero P t z zs) (hp:ee P t ps) (hv:E.kh parts=some vs) (hb:Ao ps zs vs=some cs):
 cD P n w0 ⟨d,.build t parts.toArray,ty,pos,after,gu⟩ E H (.agg cs.toArray):=fun a w s hs=>by
 obtain⟨fs,hu,Mo⟩:=hp.ex
 obtain⟨it,Ue,OG⟩:=Option.map_eq_some_iff.1 hz.eq
 have e1:=s.kh hv
 have e2:(parts.toArray.map fun(i,x)=>(i,a.eval x)).toList=vs:=by simpa using e1
 have h:=run_build (P:=P) w t (parts.toArray.map fun(i,x)=>(i,a.eval x)) cs.toArray (by
  rw[e2]
  simp only[Program.built,Ue,hu,OG,Mo]
  rw[gX,hz.cells]
  exact fill_eq ps vs zs cs hb)
 simp only[execOp,Sem.run_bind,h,Result.andThen_ok,Sem.run_pure]
theorem iP (w:World) {g off:Nat} {bt t:TypeId} {cs nv vs:List Value} {val:Value} (hs:Sat w0 w (aK g bt cs*F)) (rZ:(P.info? t).map (·.size)=some vs.length) (hv:val.cells=vs.toArray) (h1:∀u∈vs,u.oneCell'=true) (hp:iW cs off vs=some nv):
 ∃w',(storeVar t ⟨g,off,none⟩ val).run P w= .ok () w'∧Sat w0 w' (aK g bt nv*F):=by
 obtain⟨hle,zm⟩:=np hp
 obtain⟨i,hi,uZ⟩:=Option.map_eq_some_iff.1 rZ
 have hz:(sizeOf t).run P w= .ok vs.length w:=by simp[sizeOf,typeInfo,hi,uZ]
 have hr:=ig (P:=P) g off bt (0,0) vs 0 cs.toArray w (Sat.at_ hs) (by simpa using hle) h1 (fun i _ _=>by simp)
 refine⟨w.setRow g (cs.toArray.toList.take (off+0)++vs++cs.toArray.toList.drop (off+0+vs.length)).toArray,?_,?_⟩
 ·simp only[storeVar,Sem.run_bind,hz,Result.andThen_ok,hv,List.size_toArray]
  rw[if_neg (by simp)]
  exact hr
 ·refine Sat.put (o:= .cells cs.toArray bt (0,0)) hs rfl rfl rfl ?_ fun k _ hk=>setRow_other w g k _ hk
  have:=setRow_heap w g cs.toArray (cs.toArray.toList.take (off+0)++vs++cs.toArray.toList.drop (off+0+vs.length)).toArray bt (0,0) (Sat.at_ hs)
  rw[this,zm]
  simp
theorem cells_one {v:Value} (h:v.oneCell'=true):v.cells=[v].toArray:=by cases v<;>first|rfl|cases h
theorem kV {t bt:TypeId} {g off:Nat} {cs nv:List Value} (hx:E.ev x=some (ptr g off)) (hy:E.ev y=some v) (ht:fi P t) (h1:v.oneCell'=true) (hl:cZ H g bt cs F) (tM:iW cs off [v]=some nv):
 cn P n w0 ⟨none,.store t x y,ty,pos,after,gu⟩ E H (fun _:Unit=>undef) (fun _=>aK g bt nv*F):=cn.mk' (pre:=aK g bt cs) (post:=fun _=>aK g bt nv) (fun G a w K Q s hs hK=>by
 obtain⟨w',hr,eI⟩:=iP (P:=P) (t:=t) (vs:=[v]) w hs ht.size (cells_one h1) (by simpa using h1) tM
 have:=hK () w' eI
 simp only[Act.put]at this
 simp only[Oper.wp,execOp,s.ev hx,s.ev hy,Instr.storeAt,Instr.sureAddr,Sem.run_bind,Sem.run_pure,Result.andThen_ok,hr,Oper.upon_skip]
 exact this) hl.eq
theorem bo {t bt:TypeId} {g off:Nat} {cs nv vs:List Value} (hx:E.ev x=some (ptr g off)) (hy:E.ev y=some (.agg vs.toArray)) (ht:mN P t vs.length) (hl:cZ H g bt cs F) (h1:vs.all (·.oneCell')=true) (tM:iW cs off vs=some nv):
 cn P n w0 ⟨none,.store t x y,ty,pos,after,gu⟩ E H (fun _:Unit=>undef) (fun _=>aK g bt nv*F):=cn.mk' (pre:=aK g bt cs) (post:=fun _=>aK g bt nv) (fun G a w K Q s hs hK=>by
 obtain⟨w',hr,eI⟩:=iP (P:=P) (t:=t) (vs:=vs) (val:= .agg vs.toArray) w hs ht.size rfl (by simpa using h1) tM
 have:=hK () w' eI
 simp only[Act.put]at this
 simp only[Oper.wp,execOp,s.ev hx,s.ev hy,Instr.storeAt,Instr.sureAddr,Sem.run_bind,Sem.run_pure,Result.andThen_ok,hr,Oper.upon_skip]
 exact this) hl.eq
end ops
def Spec (P:Program) (w0:World) (f:FuncId) (args:List Value) (pre:af) {α:Type} (res:α→Value) (post:α→af):Prop:=
 ∀(G:af) w,Sat w0 w (pre*G)→Calls P f args.toArray w fun e w'=>∃x,e= .returned (res x)∧Sat w0 w' (post x*G)
class aA (P:Program) (f:FuncId):Prop where
 ok:∃fn,P.funcs[f]? =some fn∧fn.name≠ "runtime.NumGoroutine" ∧fn.body.isNone=false
theorem fI {f:FuncId} (hf:aA P f) (args:Array Value) (w:World):(callFunc f args).run P w= .ok (.enter f args) w:=by
 obtain⟨fn,h1,h2,h3⟩:=hf.ok
 cases hb:fn.body with
 |none=>rw[hb]at h3;cases h3
 |some c=>simp[callFunc,h1,h2,hb]
section call
variable {α:Type} {f:FuncId} {args:List Value} {pre:af} {res:α→Value} {post:α→af} {d:Option Tmp} {xs:List Operand} {ts:Array TypeId} {ty:TypeId} {pos:String} {after:Array Edge} {gu:Option (Nat×Bool)}
theorem wq (hf:aA P f) (eB:E.mU xs=some args) (spec:Spec P w0 f args pre res post):eM P n w0 ⟨d,.call ⟨.value (.func f),xs.toArray,ts⟩,ty,pos,after,gu⟩ E pre res post:=fun G a w K Q s hs hK=>by
 have e:=s.mU eB
 have hr:(execOp a.eval ⟨d,.call ⟨.value (.func f),xs.toArray,ts⟩,ty,pos,after,gu⟩).run P w= .ok (.enter f args.toArray) w:=by
  have h:=fI hf args.toArray w
  simp[execOp,resolve,Act.eval,Deferred.ofValue,invoke,e,h]
 unfold Oper.wp
 rw[hr]
 refine(spec G w hs).mono ?_
 rintro e w' ⟨x,rfl,eI⟩
 exact hK x w' eI
theorem LY {t:Tmp} {im:List Value} (hf:aA P f) (ht:E.get t=some (.func (.func f) #[] im.toArray)) (eB:E.mU xs=some args) (spec:Spec P w0 f (args++im) pre res post):eM P n w0 ⟨d,.call ⟨.value (.tmp t),xs.toArray,ts⟩,ty,pos,after,gu⟩ E pre res post:=fun G a w K Q s hs hK=>by
 have e:=s.mU eB
 have e2:a.eval (.tmp t)= .func (.func f) #[] im.toArray:=s.ev (x:= .tmp t) ht
 have hr:(execOp a.eval ⟨d,.call ⟨.value (.tmp t),xs.toArray,ts⟩,ty,pos,after,gu⟩).run P w= .ok (.enter f (args++im).toArray) w:=by
  have h:=fI hf (args++im).toArray w
  simp[execOp,resolve,e2,Deferred.ofValue,invoke,e]at h ⊢
  exact h
 unfold Oper.wp
 rw[hr]
 refine(spec G w hs).mono ?_
 rintro e w' ⟨x,rfl,eI⟩
 exact hK x w' eI
theorem vv (hf:aA P f) (eB:E.mU xs=some args) (spec:Spec P w0 f args emp res post):cn P n w0 ⟨d,.call ⟨.value (.func f),xs.toArray,ts⟩,ty,pos,after,gu⟩ E H res (fun x=>post x*H):=cn.mk' (wq hf eB spec) aB.symm
theorem vA (hf:aA P f) (eB:E.mU xs=some args) (spec:Spec P w0 f args pre res post) (hH:H=pre*F):cn P n w0 ⟨d,.call ⟨.value (.func f),xs.toArray,ts⟩,ty,pos,after,gu⟩ E H res (fun x=>post x*F):=cn.mk' (wq hf eB spec) hH
end call
def bA (P:Program) (w0:World) (f:FuncId) (args:List Value) (H:af) (v:Value):Prop:=
 ∀w,Sat w0 w H→Calls P f args.toArray w fun e w'=>e= .returned v∧Sat w0 w' H
theorem LW {f:FuncId} {args:List Value} {v:Value} {d:Option Tmp} {xs:List Operand} {ts:Array TypeId} {ty:TypeId} {pos:String} {after:Array Edge} {gu:Option (Nat×Bool)} (hf:aA P f) (eB:E.mU xs=some args) (spec:bA P w0 f args H v):cv P n w0 ⟨d,.call ⟨.value (.func f),xs.toArray,ts⟩,ty,pos,after,gu⟩ E H v:=fun a w K Q s hs hK=>by
 have e:=s.mU eB
 have hr:(execOp a.eval ⟨d,.call ⟨.value (.func f),xs.toArray,ts⟩,ty,pos,after,gu⟩).run P w= .ok (.enter f args.toArray) w:=by
  have h:=fI hf args.toArray w
  simp[execOp,resolve,Act.eval,Deferred.ofValue,invoke,e,h]
 unfold Oper.wp
 rw[hr]
 refine(spec w hs).mono ?_
 rintro e w' ⟨rfl,eI⟩
 exact hK w' eI
def aN:Nat→List Value→Env
 |_,[]=>[]
 |k,v::r=>(k,v)::aN (k+1) r
theorem wE:∀(l:List Value) (k t:Nat) (v:Value),(aN k l).get t=some v→k≤t∧l[t - k]? =some v
 |[],k,t,v,h=>by simp[aN,Env.get]at h
 |u::r,k,t,v,h=>by
  rw[aN,Env.jV]at h
  split at h
  ·rename_i e;subst e;simp at h;simp[h]
  ·obtain⟨h1,h2⟩:=wE r (k+1) t v h
   refine⟨by omega,?_⟩
   rw[show t - k=(t - (k+1))+1 by omega];simpa using h2
def Bf (P:Program) (n:fT) (w0:World) (fn:Func) (R:Value→af→Prop):Exit→St→Prop
 | .normal,σ| .ret,σ=>σ.D=[]∧∃v,(∀a w,Good n w0 σ a w→(results fn a.tmps).run P w= .ok v w)∧R v σ.H
 |_,_=>False
theorem Spec.enter {α:Type} {f:FuncId} {fn:Func} {c:Code} {args:List Value} {pre:af} {res:α→Value} {post:α→af} {m:Nat} (hf:P.funcs[f]? =some fn) (hb:fn.body=some c) (hn:fn.ntmps=m) (hle:Nat.ble args.length m=true)
 (h:∀G,WS P ⟨m,none⟩ w0 c (Bf P ⟨m,none⟩ w0 fn fun v H'=>∃x,v=res x∧aq H' (post x*G)) ⟨aN 0 args,[],pre*G⟩):Spec P w0 f args pre res post:=by
 intro G w hs
 subst hn
 have Uk:args.length≤fn.ntmps:=Nat.le_of_ble_eq_true hle
 refine calls_of_wp hf hb (wp_mono ((wpIn_wide (n:=0)).1 (h G _ w ⟨⟨by simp;omega,fun t v ht=> ?_⟩,rfl,hs⟩)) ?_)
 ·obtain⟨_,h2⟩:=wE args 0 t v ht
  have bW:=(List.getElem?_eq_some_iff.1 h2).1
  simp only[Nat.sub_zero]at h2 bW
  simp[Array.getElem?_append,bW]at h2 ⊢
  simp[h2]
 ·intro e a w' ⟨σ,h1,h2⟩
  cases e with
  |normal=>obtain⟨hD,v,hr,x,hv,he⟩:=h1;exact⟨h2.defers.trans hD,v,hr a w' h2,x,by rw[hv],he.sat h2.sat⟩
  |ret=>obtain⟨hD,v,hr,x,hv,he⟩:=h1;exact⟨h2.defers.trans hD,v,hr a w' h2,x,by rw[hv],he.sat h2.sat⟩
  |_=>exact h1.elim
section ret
variable {fn:Func} {R:Value→af→Prop}
theorem aj {e:Exit} (he:e= .ret∨e= .normal) (hr:fn.results= #[]) (h:R (.tuple #[]) H):Bf P n w0 fn R e ⟨E,[],H⟩:=by
 rcases he with rfl|rfl<;>exact⟨rfl,_,fun a w g=>results_none hr _ _ _,h⟩
theorem aC {e:Exit} {t:Nat} {v:Value} (he:e= .ret∨e= .normal) (hr:fn.results= #[.tmp t]) (hv:E.get t=some v) (h:R v H):Bf P n w0 fn R e ⟨E,[],H⟩:=by
 rcases he with rfl|rfl<;>exact⟨rfl,v,fun a w g=>by rw[results_tmp hr,g.dQ.get t v hv],h⟩
theorem de {e:Exit} {t t':Nat} {v u:Value} (he:e= .ret∨e= .normal) (hr:fn.results= #[.tmp t,.tmp t']) (hv:E.get t=some v) (hu:E.get t'=some u) (h:R (.tuple #[v,u]) H):Bf P n w0 fn R e ⟨E,[],H⟩:=by
 rcases he with rfl|rfl<;>exact⟨rfl,_,fun a w g=>by rw[results_tmp2 hr,g.dQ.get t v hv,g.dQ.get t' u hu],h⟩
end ret
end
section
open Go.RowKit
variable {P:Program} {n:fT} {w0:World} {E:Env} {D:List Deferred} {H F R:af}
class tc (v:Value) (x:outParam UInt8):Prop where eq:v=u8 x
class ej (v:Value) (x:outParam UInt32):Prop where eq:v=u32 x
class eU (v:Value) (x:outParam UInt64):Prop where eq:v=u64 x
instance (x:UInt8):tc (u8 x) x:=⟨rfl⟩
instance (x:UInt32):ej (u32 x) x:=⟨rfl⟩
instance (x:UInt64):eU (u64 x) x:=⟨rfl⟩
instance:tc (.int .u8 0) 0:=⟨rfl⟩
instance:tc (.int .u8 1) 1:=⟨rfl⟩
instance:tc (.int .u8 2) 2:=⟨rfl⟩
instance:tc (.int .u8 8) 8:=⟨rfl⟩
instance:ej (.int .u32 0) 0:=⟨rfl⟩
instance:ej (.int .u32 1) 1:=⟨rfl⟩
instance:ej (.int .u32 4294967295) 4294967295:=⟨rfl⟩
instance:eU (.int .u64 80) 80:=⟨rfl⟩
instance:eU (.int .u64 1000) 1000:=⟨rfl⟩
instance:eU (.int .u64 1280) 1280:=⟨rfl⟩
instance:eU (.int .u64 2000) 2000:=⟨rfl⟩
instance:eU (.int .u64 3000) 3000:=⟨rfl⟩
instance:eU (.int .u64 65536) 65536:=⟨rfl⟩
instance:eU (.int .u64 1099511627776) 1099511627776:=⟨rfl⟩
theorem bF (op:BinOp) (t:TypeId) (a b:Operand) (k k':IntKind) (x y:Int) (w:World):(eqGuard op t a b (.int k x) (.int k' y)).run P w= .ok () w:=by
 unfold eqGuard
 cases op<;>rfl
theorem wrap_u32 (m:Int):IntKind.u32.wrap m=m % 4294967296:=by simp[IntKind.wrap,IntKind.signed,IntKind.bits]
theorem wrap_u64 (m:Int):IntKind.u64.wrap m=m % 18446744073709551616:=by simp[IntKind.wrap,IntKind.signed,IntKind.bits]
theorem wrap_u8 (m:Int):IntKind.u8.wrap m=m % 256:=by simp[IntKind.wrap,IntKind.signed,IntKind.bits]
theorem pL {m:Int} {x:UInt32} (h:m=(x.toNat:Int)):Value.int .u32 m=u32 x:=by rw[h];rfl
theorem nn {m:Int} {x:UInt64} (h:m=(x.toNat:Int)):Value.int .u64 m=u64 x:=by rw[h];rfl
theorem KD {m:Int} {x:UInt8} (h:m=(x.toNat:Int)):Value.int .u8 m=u8 x:=by rw[h];rfl
section
variable {t:TypeId} {v u:Value}
instance Tr {x y:UInt32} [a:ej v x] [b:ej u y]:dL P .add t v u (u32 (x+y)):=by
 obtain⟨rfl⟩:=a;obtain⟨rfl⟩:=b
 refine⟨fun w=> ?_,fun w _ _=>bF _ _ _ _ _ _ _ _ _⟩
 have e:u32 (x+y)= .int .u32 (IntKind.u32.wrap ((x.toNat:Int)+(y.toNat:Int))):=(pL (by rw[wrap_u32,UInt32.toNat_add];omega)).symm
 rw[e];rfl
instance Vl {x y:UInt32} [a:ej v x] [b:ej u y]:dL P .sub t v u (u32 (x - y)):=by
 obtain⟨rfl⟩:=a;obtain⟨rfl⟩:=b
 refine⟨fun w=> ?_,fun w _ _=>bF _ _ _ _ _ _ _ _ _⟩
 have hx:=x.toNat_lt;have hy:=y.toNat_lt
 have e:u32 (x - y)= .int .u32 (IntKind.u32.wrap ((x.toNat:Int) - (y.toNat:Int))):=(pL (by rw[wrap_u32,UInt32.toNat_sub];omega)).symm
 rw[e];rfl
instance Ts {x y:UInt64} [a:eU v x] [b:eU u y]:dL P .add t v u (u64 (x+y)):=by
 obtain⟨rfl⟩:=a;obtain⟨rfl⟩:=b
 refine⟨fun w=> ?_,fun w _ _=>bF _ _ _ _ _ _ _ _ _⟩
 have e:u64 (x+y)= .int .u64 (IntKind.u64.wrap ((x.toNat:Int)+(y.toNat:Int))):=(nn (by rw[wrap_u64,UInt64.toNat_add];omega)).symm
 rw[e];rfl
instance Vm {x y:UInt64} [a:eU v x] [b:eU u y]:dL P .sub t v u (u64 (x - y)):=by
 obtain⟨rfl⟩:=a;obtain⟨rfl⟩:=b
 refine⟨fun w=> ?_,fun w _ _=>bF _ _ _ _ _ _ _ _ _⟩
 have hx:=x.toNat_lt;have hy:=y.toNat_lt
 have e:u64 (x - y)= .int .u64 (IntKind.u64.wrap ((x.toNat:Int) - (y.toNat:Int))):=(nn (by rw[wrap_u64,UInt64.toNat_sub];omega)).symm
 rw[e];rfl
instance U3 {x y:UInt64} [a:eU v x] [b:eU u y]:dL P .mul t v u (u64 (x*y)):=by
 obtain⟨rfl⟩:=a;obtain⟨rfl⟩:=b
 refine⟨fun w=> ?_,fun w _ _=>bF _ _ _ _ _ _ _ _ _⟩
 have e:u64 (x*y)= .int .u64 (IntKind.u64.wrap ((x.toNat:Int)*(y.toNat:Int))):=(nn (by rw[wrap_u64,UInt64.toNat_mul];simp)).symm
 rw[e];rfl
instance Vf {x y:UInt64} [a:eU v x] [b:eU u y] [hy:NeZero y.toNat]:dL P .rem t v u (u64 (x % y)):=by
 obtain⟨rfl⟩:=a;obtain⟨rfl⟩:=b
 refine⟨fun w=> ?_,fun w _ _=>bF _ _ _ _ _ _ _ _ _⟩
 have e:u64 (x % y)= .int .u64 ((x.toNat:Int).tmod (y.toNat:Int)):=(nn (by rw[UInt64.toNat_mod,Int.ofNat_tmod])).symm
 rw[e]
 have h0:y.toNat≠0:=hy.out
 simp[binOp,u64,Op.intDiv,h0]
instance:NeZero (UInt64.toNat 65536):=⟨by decide⟩
instance Vz {x y:UInt8} [a:tc v x] [b:tc u y]:dL P .add t v u (u8 (x+y)):=by
 obtain⟨rfl⟩:=a;obtain⟨rfl⟩:=b
 refine⟨fun w=> ?_,fun w _ _=>bF _ _ _ _ _ _ _ _ _⟩
 have e:u8 (x+y)= .int .u8 (IntKind.u8.wrap ((x.toNat:Int)+(y.toNat:Int))):=(KD (by rw[wrap_u8,UInt8.toNat_add];omega)).symm
 rw[e];rfl
theorem vJ {k:IntKind} {x y:Int} {p:Prop} [Decidable p] (h:p↔x=y):∀w,(binOp .eql t (.int k x) (.int k y)).run P w= .ok (.bool (decide p)) w:=fun w=>by
 have:decide p=(x==y):=by rw[Bool.eq_iff_iff];simp[h]
 rw[this];simp[binOp,Op.intCmp]
theorem vK {k:IntKind} {x y:Int} {p:Prop} [Decidable p] (h:p↔x=y):∀w,(binOp .neq t (.int k x) (.int k y)).run P w= .ok (.bool (!decide p)) w:=fun w=>by
 have:(!decide p)=(x !=y):=by rw[Bool.eq_iff_iff];simp[h]
 rw[this];simp[binOp,Op.intCmp]
theorem As {k:IntKind} {x y:Int} {p:Prop} [Decidable p] (h:p↔x<y):∀w,(binOp .lss t (.int k x) (.int k y)).run P w= .ok (.bool (decide p)) w:=fun w=>by
 have:decide p=decide (x<y):=by rw[Bool.eq_iff_iff];simp[h]
 rw[this];simp[binOp,Op.intCmp]
theorem Ar {k:IntKind} {x y:Int} {p:Prop} [Decidable p] (h:p↔x≤y):∀w,(binOp .leq t (.int k x) (.int k y)).run P w= .ok (.bool (decide p)) w:=fun w=>by
 have:decide p=decide (x≤y):=by rw[Bool.eq_iff_iff];simp[h]
 rw[this];simp[binOp,Op.intCmp]
theorem Aq {k:IntKind} {x y:Int} {p:Prop} [Decidable p] (h:p↔y<x):∀w,(binOp .gtr t (.int k x) (.int k y)).run P w= .ok (.bool (decide p)) w:=fun w=>by
 have:decide p=decide (x>y):=by rw[Bool.eq_iff_iff];simp[h]
 rw[this];simp[binOp,Op.intCmp]
theorem Ap {k:IntKind} {x y:Int} {p:Prop} [Decidable p] (h:p↔y≤x):∀w,(binOp .geq t (.int k x) (.int k y)).run P w= .ok (.bool (decide p)) w:=fun w=>by
 have:decide p=decide (x≥y):=by rw[Bool.eq_iff_iff];simp[h]
 rw[this];simp[binOp,Op.intCmp]
instance Tx {x y:UInt32} [a:ej v x] [b:ej u y]:dL P .eql t v u (.bool (decide (x=y))):=by
 obtain⟨rfl⟩:=a;obtain⟨rfl⟩:=b;exact⟨vJ (by rw[←UInt32.toNat_inj];omega),fun w _ _=>bF _ _ _ _ _ _ _ _ _⟩
instance U5 {x y:UInt32} [a:ej v x] [b:ej u y]:dL P .neq t v u (.bool (!decide (x=y))):=by
 obtain⟨rfl⟩:=a;obtain⟨rfl⟩:=b;exact⟨vK (by rw[←UInt32.toNat_inj];omega),fun w _ _=>bF _ _ _ _ _ _ _ _ _⟩
instance UY {x y:UInt32} [a:ej v x] [b:ej u y]:dL P .lss t v u (.bool (decide (x<y))):=by
 obtain⟨rfl⟩:=a;obtain⟨rfl⟩:=b;exact⟨As (by rw[UInt32.lt_iff_toNat_lt];omega),fun w _ _=>bF _ _ _ _ _ _ _ _ _⟩
instance UT {x y:UInt32} [a:ej v x] [b:ej u y]:dL P .leq t v u (.bool (decide (x≤y))):=by
 obtain⟨rfl⟩:=a;obtain⟨rfl⟩:=b;exact⟨Ar (by rw[UInt32.le_iff_toNat_le];omega),fun w _ _=>bF _ _ _ _ _ _ _ _ _⟩
instance TD {x y:UInt32} [a:ej v x] [b:ej u y]:dL P .gtr t v u (.bool (decide (y<x))):=by
 obtain⟨rfl⟩:=a;obtain⟨rfl⟩:=b;exact⟨Aq (by rw[UInt32.lt_iff_toNat_lt];omega),fun w _ _=>bF _ _ _ _ _ _ _ _ _⟩
instance TB {x y:UInt32} [a:ej v x] [b:ej u y]:dL P .geq t v u (.bool (decide (y≤x))):=by
 obtain⟨rfl⟩:=a;obtain⟨rfl⟩:=b;exact⟨Ap (by rw[UInt32.le_iff_toNat_le];omega),fun w _ _=>bF _ _ _ _ _ _ _ _ _⟩
instance Ty {x y:UInt64} [a:eU v x] [b:eU u y]:dL P .eql t v u (.bool (decide (x=y))):=by
 obtain⟨rfl⟩:=a;obtain⟨rfl⟩:=b;exact⟨vJ (by rw[←UInt64.toNat_inj];omega),fun w _ _=>bF _ _ _ _ _ _ _ _ _⟩
instance U6 {x y:UInt64} [a:eU v x] [b:eU u y]:dL P .neq t v u (.bool (!decide (x=y))):=by
 obtain⟨rfl⟩:=a;obtain⟨rfl⟩:=b;exact⟨vK (by rw[←UInt64.toNat_inj];omega),fun w _ _=>bF _ _ _ _ _ _ _ _ _⟩
instance UZ {x y:UInt64} [a:eU v x] [b:eU u y]:dL P .lss t v u (.bool (decide (x<y))):=by
 obtain⟨rfl⟩:=a;obtain⟨rfl⟩:=b;exact⟨As (by rw[UInt64.lt_iff_toNat_lt];omega),fun w _ _=>bF _ _ _ _ _ _ _ _ _⟩
instance UU {x y:UInt64} [a:eU v x] [b:eU u y]:dL P .leq t v u (.bool (decide (x≤y))):=by
 obtain⟨rfl⟩:=a;obtain⟨rfl⟩:=b;exact⟨Ar (by rw[UInt64.le_iff_toNat_le];omega),fun w _ _=>bF _ _ _ _ _ _ _ _ _⟩
instance TE {x y:UInt64} [a:eU v x] [b:eU u y]:dL P .gtr t v u (.bool (decide (y<x))):=by
 obtain⟨rfl⟩:=a;obtain⟨rfl⟩:=b;exact⟨Aq (by rw[UInt64.lt_iff_toNat_lt];omega),fun w _ _=>bF _ _ _ _ _ _ _ _ _⟩
instance TC {x y:UInt64} [a:eU v x] [b:eU u y]:dL P .geq t v u (.bool (decide (y≤x))):=by
 obtain⟨rfl⟩:=a;obtain⟨rfl⟩:=b;exact⟨Ap (by rw[UInt64.le_iff_toNat_le];omega),fun w _ _=>bF _ _ _ _ _ _ _ _ _⟩
instance VE {x y:UInt8} [a:tc v x] [b:tc u y]:dL P .eql t v u (.bool (decide (x=y))):=by
 obtain⟨rfl⟩:=a;obtain⟨rfl⟩:=b;exact⟨vJ (by rw[←UInt8.toNat_inj];omega),fun w _ _=>bF _ _ _ _ _ _ _ _ _⟩
instance Ww {x y:UInt8} [a:tc v x] [b:tc u y]:dL P .neq t v u (.bool (!decide (x=y))):=by
 obtain⟨rfl⟩:=a;obtain⟨rfl⟩:=b;exact⟨vK (by rw[←UInt8.toNat_inj];omega),fun w _ _=>bF _ _ _ _ _ _ _ _ _⟩
instance W0 {x y:Int}:dL P .eql t (.int .i64 x) (.int .i64 y) (.bool (decide (x=y))):=⟨vJ Iff.rfl,fun w _ _=>bF _ _ _ _ _ _ _ _ _⟩
instance YB {x y:Int}:dL P .neq t (.int .i64 x) (.int .i64 y) (.bool (!decide (x=y))):=⟨vK Iff.rfl,fun w _ _=>bF _ _ _ _ _ _ _ _ _⟩
instance Yz {x y:Int}:dL P .lss t (.int .i64 x) (.int .i64 y) (.bool (decide (x<y))):=⟨As Iff.rfl,fun w _ _=>bF _ _ _ _ _ _ _ _ _⟩
instance Yx {x y:Int}:dL P .leq t (.int .i64 x) (.int .i64 y) (.bool (decide (x≤y))):=⟨Ar Iff.rfl,fun w _ _=>bF _ _ _ _ _ _ _ _ _⟩
instance Xa {x y:Int}:dL P .gtr t (.int .i64 x) (.int .i64 y) (.bool (decide (y<x))):=⟨Aq Iff.rfl,fun w _ _=>bF _ _ _ _ _ _ _ _ _⟩
instance W6 {x y:Int}:dL P .geq t (.int .i64 x) (.int .i64 y) (.bool (decide (y≤x))):=⟨Ap Iff.rfl,fun w _ _=>bF _ _ _ _ _ _ _ _ _⟩
instance WZ {x y:Bool} [h:eN P t .bool]:dL P .eql t (.bool x) (.bool y) (.bool (x==y)):=⟨fun w=>run_eql_bool w t x y h.eq,fun w _ _=>rfl⟩
instance YA {x y:Bool} [h:eN P t .bool]:dL P .neq t (.bool x) (.bool y) (.bool (!(x==y))):=⟨fun w=>run_neq_bool w t x y h.eq,fun w _ _=>rfl⟩
instance YF:Qv P .not (.bool true) (.bool false):=⟨fun w=>rfl⟩
instance YE:Qv P .not (.bool false) (.bool true):=⟨fun w=>rfl⟩
instance (priority:=low) YD {x:Bool}:Qv P .not (.bool x) (.bool (!x)):=⟨fun w=>rfl⟩
end
section
variable {d:Option Tmp} {ty:TypeId} {pos:String} {after:Array Edge} {gu:Option (Nat×Bool)} {x y:Operand}
theorem wj {t t2:TypeId} {a b:Int} (hx:E.ev x=some (.int .i64 a)) (hy:E.ev y=some (.int .i64 b)) (h: -9223372036854775808≤a+b∧a+b≤9223372036854775807):cD P n w0 ⟨d,.binOp .add t x y t2,ty,pos,after,gu⟩ E H (.int .i64 (a+b)):=fun ac w s hs=>by
 have:=IntWalk.i64_in (a+b) h
 simp[execOp,s.ev hx,s.ev hy,bF,binOp,Op.intArith,this]
theorem I3 {t t2:TypeId} {a b:Int} (hx:E.ev x=some (.int .i64 a)) (hy:E.ev y=some (.int .i64 b)) (h: -9223372036854775808≤a - b∧a - b≤9223372036854775807):cD P n w0 ⟨d,.binOp .sub t x y t2,ty,pos,after,gu⟩ E H (.int .i64 (a - b)):=fun ac w s hs=>by
 have:=IntWalk.i64_in (a - b) h
 simp[execOp,s.ev hx,s.ev hy,bF,binOp,Op.intArith,this]
theorem I2 {t t2:TypeId} {a b:Int} (hx:E.ev x=some (.int .i64 a)) (hy:E.ev y=some (.int .i64 b)) (h: -9223372036854775808≤a*b∧a*b≤9223372036854775807):cD P n w0 ⟨d,.binOp .mul t x y t2,ty,pos,after,gu⟩ E H (.int .i64 (a*b)):=fun ac w s hs=>by
 have:=IntWalk.i64_in (a*b) h
 simp[execOp,s.ev hx,s.ev hy,bF,binOp,Op.intArith,this]
theorem DF {t:TypeId} {a:Int} (hx:E.ev x=some (.int .i64 a)) (h: -9223372036854775807≤a∧a≤9223372036854775807):cD P n w0 ⟨d,.unOp .neg t x,ty,pos,after,gu⟩ E H (.int .i64 (-a)):=fun ac w s hs=>by
 have:=IntWalk.i64_in (-a) (by omega)
 simp[execOp,s.ev hx,Op.unary,Op.intArith,this]
theorem NZ {t t2:TypeId} {a b:Int} (hx:E.ev x=some (.int .i64 a)) (hy:E.ev y=some (.int .i64 b)) (h:0≤a∧0<b∧a≤9223372036854775807):cD P n w0 ⟨d,.binOp .quo t x y t2,ty,pos,after,gu⟩ E H (.int .i64 (a / b)):=fun ac w s hs=>by
 have h0:b≠0:=by omega
 have h1:=Int.tdiv_eq_ediv_of_nonneg (a:=a) (b:=b) h.1
 have h2:=Int.ediv_le_self b h.1
 have h3:=Int.ediv_nonneg h.1 (Int.le_of_lt h.2.1)
 have h4:=IntWalk.i64_in (a / b) (by omega)
 simp[execOp,s.ev hx,s.ev hy,bF,binOp,Op.intDiv,h0,h1,h4]
theorem LU {a b:UInt32} {ts:Array TypeId} {v u:Value} (hx:E.ev x=some v) (hy:E.ev y=some u) (h1:ej v a) (h2:ej u b):cD P n w0 ⟨d,.call ⟨.builtin .max,#[x,y],ts⟩,ty,pos,after,gu⟩ E H (u32 (max a b)):=fun ac w s hs=>by
 obtain⟨rfl⟩:=h1;obtain⟨rfl⟩:=h2
 have h:=M5 (P:=P) (n:=n) (w0:=w0) (H:=H) (d:=d) (ty:=ty) (pos:=pos) (after:=after) (gu:=gu) (ts:=ts) hx hy ac w s hs
 rw[h]
 have:(max a b).toNat=if a.toNat≤b.toNat then b.toNat else a.toNat:=by
  show(if a≤b then b else a).toNat=_
  by_cases xe:a≤b
  ·rw[if_pos xe,if_pos (UInt32.le_iff_toNat_le.1 xe)]
  ·rw[if_neg xe,if_neg (fun h=>xe (UInt32.le_iff_toNat_le.2 h))]
 congr 2
 show Value.int .u32 _=Value.int .u32 _
 congr 1
 rw[this]
 split<;>split<;>omega
theorem LV {a b:UInt64} {ts:Array TypeId} {v u:Value} (hx:E.ev x=some v) (hy:E.ev y=some u) (h1:eU v a) (h2:eU u b):cD P n w0 ⟨d,.call ⟨.builtin .max,#[x,y],ts⟩,ty,pos,after,gu⟩ E H (u64 (max a b)):=fun ac w s hs=>by
 obtain⟨rfl⟩:=h1;obtain⟨rfl⟩:=h2
 have h:=M5 (P:=P) (n:=n) (w0:=w0) (H:=H) (d:=d) (ty:=ty) (pos:=pos) (after:=after) (gu:=gu) (ts:=ts) hx hy ac w s hs
 rw[h]
 have:(max a b).toNat=if a.toNat≤b.toNat then b.toNat else a.toNat:=by
  show(if a≤b then b else a).toNat=_
  by_cases xe:a≤b
  ·rw[if_pos xe,if_pos (UInt64.le_iff_toNat_le.1 xe)]
  ·rw[if_neg xe,if_neg (fun h=>xe (UInt64.le_iff_toNat_le.2 h))]
 congr 2
 show Value.int .u64 _=Value.int .u64 _
 congr 1
 rw[this]
 split<;>split<;>omega
theorem NY {a b:Int} {ts:Array TypeId} (hx:E.ev x=some (.int .i64 a)) (hy:E.ev y=some (.int .i64 b)):cD P n w0 ⟨d,.call ⟨.builtin .min,#[x,y],ts⟩,ty,pos,after,gu⟩ E H (.int .i64 (min a b)):=fun ac w s hs=>by
 rw[Qt (P:=P) (n:=n) (w0:=w0) (H:=H) hx hy ac w s hs]
 have:(if b<a then b else a)=min a b:=by omega
 rw[this]
@[reducible] def aZ (l:List UInt8):Value:= .string ⟨l.toArray⟩
theorem NX {t:TypeId} {l:List UInt8} (hx:E.ev x=some (aZ l)) (ht:eN P t .string):cD P n w0 ⟨d,.call ⟨.builtin .len,#[x],#[t]⟩,ty,pos,after,gu⟩ E H (.int .i64 (l.length:Int)):=GJ hx ht
theorem kD {src t:TypeId} {v:Value} {a:UInt64} {ds:TypeDesc} (hx:E.ev x=some v) (hv:eU v a) (hs:eN P src ds) (hd:eN P t (.int .u32)):cD P n w0 ⟨d,.convert src t x,ty,pos,after,gu⟩ E H (u32 a.toUInt32):=by
 obtain⟨rfl⟩:=hv
 exact kX hx hs hd (by rw[wrap_u32];simp)
theorem eV {src t:TypeId} {v:Value} {a:UInt32} {ds:TypeDesc} (hx:E.ev x=some v) (hv:ej v a) (hs:eN P src ds) (hd:eN P t (.int .u64)):cD P n w0 ⟨d,.convert src t x,ty,pos,after,gu⟩ E H (u64 a.toUInt64):=by
 obtain⟨rfl⟩:=hv
 exact kX hx hs hd (by have:=a.toNat_lt;rw[wrap_u64];simp;omega)
end
end
end Go.Proofs.YtapoehkdnglahabGreat

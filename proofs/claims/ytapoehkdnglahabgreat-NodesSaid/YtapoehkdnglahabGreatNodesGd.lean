/- A part of what Nodes needs. -/
import Derived.Test.YtapoehkdnglahabGreatNodesGc
set_option linter.unusedVariables false
set_option linter.unusedSimpArgs false
set_option linter.unusedSectionVars false
namespace Go.Proofs.YtapoehkdnglahabGreat
section
open Go.RowKit
variable {P:Program} {n:fT} {w0:World} {E:Env} {D:List Deferred} {H F F2 R:af} {ops:Array Oper} {l':List Oper} {Q:Exit→St→Prop} {w:World}
def di (v:Value) (k:Nat):Value:=match v with
 | .slice A m c=> .slice A (min k m) c
 |v=>v
def cq (size:Nat) (v:Value) (k:Nat):Value:=match v with
 | .slice A m c=>sliced A (min k m) m c size
 |v=>v
section
variable {α:Type} {e:TypeId} {size:Nat} {f:α→List Value} {v:Value} {l:List α}
theorem ix.head (h:ix w size f v l) (k:Nat):ix w size f (di v k) (l.take k):=by
 obtain⟨A,c,rfl,h1,h2⟩:=h.form
 refine⟨⟨A,c,by simp[di,List.length_take],by simp;omega,h2⟩,fun j hj=> ?_⟩
 have qF:j<l.length:=by simp at hj;omega
 obtain⟨g,off,cap,hv,hc⟩:=h.cell j qF
 injection hv with e1 e2 e3
 subst e1
 refine⟨g,off,c,by simp[di,List.length_take],fun i u hi hu=>hc i u hi ?_⟩
 simpa using hu
theorem ix.tail (h:ix w size f v l) (k:Nat):ix w size f (cq size v k) (l.drop k):=by
 obtain⟨A,c,rfl,h1,h2⟩:=h.form
 refine⟨⟨_,_,by simp only[cq,sliced];congr 1;simp;omega,by simp;omega,by omega⟩,fun j hj=> ?_⟩
 have qF:k+j<l.length:=by simp at hj;omega
 obtain⟨g,off,cap,hv,hc⟩:=h.cell (k+j) qF
 injection hv with e1 e2 e3
 subst e1
 have xl:min k l.length=k:=by omega
 refine⟨g,off+k*size,c - k,?_,fun i u hi hu=> ?_⟩
 ·simp only[cq,sliced,xl]
  rw[if_neg (by omega)]
  simp[add_lit]
 ·have:=hc i u hi (by simpa using hu)
  rwa[Nat.add_mul,Nat.add_assoc (k*size),←Nat.add_assoc off]at this
instance Sc (k:Nat) [h:eX w0 H v α size f l]:eX w0 H (di v k) α size f (l.take k):=⟨fun w hs=>(h.at_ w hs).head k⟩
instance zN (k:Nat) [h:eX w0 H v α size f l]:eX w0 H (cq size v k) α size f (l.drop k):=⟨fun w hs=>(h.at_ w hs).tail k⟩
variable {d:Option Tmp} {ty:TypeId} {pos:String} {after:Array Edge} {gu:Option (Nat×Bool)} {x y z:Operand}
theorem dv {t e2:TypeId} {q:IntKind} {i:Int} {k:Nat} (hx:E.ev x=some v) (hy:E.ev y=some (.int q i)) (hl:eX w0 H v α size f l) (ht:eN P t (.slice e2)) (fP:GL P e2 size) (hi:fB i k) (hk:k≤l.length):
 cD P n w0 ⟨d,.slice t x none (some y) none,ty,pos,after,gu⟩ E H (di v k):=fun a w s hs=>by
 obtain⟨A,c,rfl,h1,h2⟩:=(hl.at_ w hs).form
 obtain⟨i0,uY,zq⟩:=Option.map_eq_some_iff.1 fP.eq
 obtain rfl:=hi.eq
 have FW:P.elem t=e2:=by simp[Program.elem,ht.eq]
 have xq:P.underlying t=some (.slice (P.elem t)):=by rw[ht.eq,FW]
 have hr:=run_slice_h (P:=P) (w:=w) t A l.length c xq q (k:Int) (by omega) (by omega)
 have xl:min k l.length=k:=by omega
 have hz:(sizeOf e2).run P w= .ok size w:=by simp[sizeOf,typeInfo,uY,zq]
 rw[FW,hz]at hr
 have hA:(if c=0 then A else A.map (·.add (0*size)))=A:=by
  split
  ·rfl
  ·cases A with
   |none=>rfl
   |some a=>simp;unfold Addr.add;cases a;simp
 simp only[execOp,s.ev hx,s.ev hy,Option.map_some,Option.map_none,run_sliceAt_slice w t _ _ _ _ xq,Sem.run_bind,hr,Result.andThen_ok,Sem.run_pure,Int.toNat_natCast,di,xl,sliced,hA,Nat.sub_zero]
theorem cW {t e2:TypeId} {q:IntKind} {i:Int} {k:Nat} (hx:E.ev x=some v) (hy:E.ev y=some (.int q i)) (hl:eX w0 H v α size f l) (ht:eN P t (.slice e2)) (fP:GL P e2 size) (hi:fB i k) (hk:k≤l.length):
 cD P n w0 ⟨d,.slice t x (some y) none none,ty,pos,after,gu⟩ E H (cq size v k):=fun a w s hs=>by
 obtain⟨A,c,rfl,h1,h2⟩:=(hl.at_ w hs).form
 obtain⟨i0,uY,zq⟩:=Option.map_eq_some_iff.1 fP.eq
 obtain rfl:=hi.eq
 have FW:P.elem t=e2:=by simp[Program.elem,ht.eq]
 have xq:P.underlying t=some (.slice (P.elem t)):=by rw[ht.eq,FW]
 have hr:=run_slice_l (P:=P) (w:=w) t A l.length c xq q (k:Int) (by omega) (by omega)
 have xl:min k l.length=k:=by omega
 have hz:(sizeOf e2).run P w= .ok size w:=by simp[sizeOf,typeInfo,uY,zq]
 rw[FW,hz]at hr
 simp only[execOp,s.ev hx,s.ev hy,Option.map_some,Option.map_none,run_sliceAt_slice w t _ _ _ _ xq,Sem.run_bind,hr,Result.andThen_ok,Sem.run_pure,Int.toNat_natCast,cq,xl]
theorem aq.Nc (k:Nat) [h:dD H v α e size f l F] [hf:cY f size]:aq H (rows e size f (di v k) (l.take k)*F):=by
 rw[h.eq]
 refine aq.star (fun x hx=>⟨x,?_,fun _ _ e=>e⟩) (aq.refl _)
 obtain⟨hlen,hc⟩:=hx
 refine⟨bZ f size hf.eq _,?_⟩
 have hle:min k l.length≤l.length:=Nat.min_le_right _ _
 rcases hc with ⟨A,rfl,h0,hn⟩|⟨g,off,cap,cur,fr,rfl,h1,h2,h3,h4,h5,h6⟩
 ·left;exact⟨A,by simp[di],by rw[List.length_take];omega,hn⟩
 ·right
  refine⟨g,off,cap,cur,fr,by simp[di,List.length_take],by simp;omega,h2,h3,?_,h5,h6⟩
  have hm:min k l.length*size≤l.length*size:=Nat.mul_le_mul_right _ hle
  have e1:∀(k:Nat) (l:List α),(l.take k).flatMap f=(l.flatMap f).take (min k l.length*size):=by
   intro k l
   induction l generalizing k with
   |nil=>simp
   |cons a l ih=>
    cases k with
    |zero=>simp
    |succ k=>
     have:min (k+1) (a::l).length*size=(f a).length+min k l.length*size:=by
      rw[hf.eq,List.length_cons,show min (k+1) (l.length+1)=min k l.length+1 by omega,Nat.succ_mul];omega
     simp only[List.take_succ_cons,List.flatMap_cons,ih,this,List.take_length_add_append]
  rw[e1,←h4,List.take_take,List.length_take,Nat.min_eq_left hm]
theorem aq.NP (k:Nat) (hk:k≤l.length) [h:dD H v α e size f l F] [hf:cY f size]:aq H (rows e size f (cq size v k) (l.drop k)*F):=by
 rw[h.eq]
 refine aq.star (fun x hx=> ?_) (aq.refl _)
 obtain⟨hlen,hc⟩:=hx
 rcases hc with ⟨A,rfl,h0,hn⟩|⟨g,off,cap,cur,fr,rfl,h1,h2,h3,h4,h5,h6⟩
 ·refine⟨x,⟨bZ f size hf.eq _,.inl ⟨A,by simp[cq,sliced],by simp;omega,hn⟩⟩,fun _ _ e=>e⟩
 ·have xl:min k l.length=k:=by omega
  have QZ:∀(k:Nat) (l:List α),k≤l.length→(l.drop k).flatMap f=(l.flatMap f).drop (k*size):=by
   intro k l hk
   induction l generalizing k with
   |nil=>simp
   |cons a l ih=>
    cases k with
    |zero=>simp
    |succ k=>
     have:(k+1)*size=(f a).length+k*size:=by rw[hf.eq,Nat.succ_mul];omega
     simp only[List.drop_succ_cons,List.flatMap_cons,ih k (by simpa using hk),this,List.drop_length_add_append]
  by_cases QS:cap=k
  ·refine⟨fun _=>none,⟨bZ f size hf.eq _,.inl ⟨some ⟨g,off,none⟩,?_,by simp;omega,fun _=>rfl⟩⟩,fun _ _ e=>by cases e⟩
   simp only[cq,sliced,xl]
   rw[if_pos QS]
   congr 1<;>omega
  ·refine⟨x,⟨bZ f size hf.eq _,.inr ⟨g,off+k*size,cap - k,cur,fr,?_,by simp;omega,by omega,?_,?_,?_,h6⟩⟩,fun _ _ e=>e⟩
   ·simp only[cq,sliced,xl]
    rw[if_neg QS]
    simp[add_lit]
   ·have:(cap - k)*size=cap*size - k*size:=Nat.sub_mul _ _ _
    have:k*size≤cap*size:=Nat.mul_le_mul_right _ (by omega)
    omega
   ·rw[QZ k l hk,←h4,List.drop_take,List.drop_drop,List.length_drop,Nat.sub_mul]
   ·intro i zq uZ
    have:(cap - k)*size=cap*size - k*size:=Nat.sub_mul _ _ _
    have:k*size≤cap*size:=Nat.mul_le_mul_right _ (by omega)
    exact h5 i (by omega) (by omega)
theorem jl {c:Code} (v:Value) (hl:dD H v α e size f l F) (h:∀A cap,v= .slice A l.length cap→WS P n w0 c Q ⟨E,D,H⟩):WS P n w0 c Q ⟨E,D,H⟩:=fun a w g=>by
 obtain⟨A,cap,hv⟩:=gz (g.sat.cast hl.eq)
 exact h A cap hv a w g
theorem pj (v:Value) (hl:dD H v α e size f l F) (h:∀A cap,v= .slice A l.length cap→LS P n w0 ops Q l' ⟨E,D,H⟩):LS P n w0 ops Q l' ⟨E,D,H⟩:=fun a w g=>by
 obtain⟨A,cap,hv⟩:=gz (g.sat.cast hl.eq)
 exact h A cap hv a w g
theorem FE {c:Code} (v:Value) (hl:dD H v α e size f l F) (hf:cY f size) (hp:Nat.blt 0 size=true) (hk:0<l.length) (h:∀g off cap,v= .slice (some ⟨g,off,none⟩) l.length cap→WS P n w0 c Q ⟨E,D,H⟩):WS P n w0 c Q ⟨E,D,H⟩:=fun a w g=>by
 obtain⟨g',off,cap,hv,_⟩:=pP (by simpa using hp) (g.sat.cast hl.eq) hk
 exact h g' off cap hv a w g
theorem BC {t e2:TypeId} {q:IntKind} {i:Int} {k m g off cap:Nat} (hx:E.ev x=some (.slice (some ⟨g,off,none⟩) m cap)) (hy:E.ev y=some (.int q i)) (ht:eN P t (.slice e2)) (fP:GL P e2 size) (hi:fB i k) (hk:k<m):
 cD P n w0 ⟨d,.indexAddr t x y,ty,pos,after,gu⟩ E H (pX (.slice (some ⟨g,off,none⟩) m cap) size k 0):=fun a w s hs=>by
 obtain⟨i0,uY,zq⟩:=Option.map_eq_some_iff.1 fP.eq
 obtain rfl:=hi.eq
 have FW:P.elem t=e2:=by simp[Program.elem,ht.eq]
 have h:=run_indexAt_slice (P:=P) w t ⟨g,off,none⟩ m cap q (k:Int) (by rw[ht.eq,FW])
 rw[if_pos ⟨by omega,by omega⟩,FW]at h
 simp[execOp,s.ev hx,s.ev hy,h,sizeOf,typeInfo,uY,zq,pX]
end
instance R6 (H A B F1 F:af) [h1:Own H A F1] [h2:Own F1 B F]:Own H (A*B) F:=⟨by rw[h1.eq,h2.eq,ad]⟩
instance PS (i j:Int) (k m:Nat) [a:fB i k] [b:fB j m]:fB (i*j) (k*m):=⟨by rw[a.eq,b.eq];simp⟩
instance Pe (g:Nat) (t:TypeId) (cs:List Value):cZ (aK g t cs) g t cs emp:=⟨bl.symm⟩
instance NF {α:Type} (e:TypeId) (size:Nat) (f:α→List Value) (v:Value) (l:List α):dD (rows e size f v l) v α e size f l emp:=⟨bl.symm⟩
instance Pm {κ ν:Type} (fk:κ→Value) (fv:ν→Value) (r:Nat) (m:List (κ×ν)):jQ (mp fk fv r m) r κ ν fk fv m emp:=⟨bl.symm⟩
class yr (v:Value):Prop where ok:v.oneCell'=true
class One (w0:World) (H:af) (v:Value):Prop where ok:∀w,Sat w0 w H→v.oneCell'=true
instance Wy {v:Value} [h:yr v]:One w0 H v:=⟨fun _ _=>h.ok⟩
instance {k:IntKind} {m:Int}:yr (.int k m):=⟨rfl⟩
instance {b:Bool}:yr (.bool b):=⟨rfl⟩
instance {b:ByteArray}:yr (.string b):=⟨rfl⟩
instance {a:Option Addr}:yr (.pointer a):=⟨rfl⟩
instance {a:Option Addr} {m c:Nat}:yr (.slice a m c):=⟨rfl⟩
instance {m:Option Nat}:yr (.map m):=⟨rfl⟩
instance {f:Fn} {a b:Array Value}:yr (.func f a b):=⟨rfl⟩
instance {x:UInt32}:yr (u32 x):=⟨rfl⟩
instance {x:UInt64}:yr (u64 x):=⟨rfl⟩
instance (priority:=low) Tg {α:Type} {size:Nat} {f:α→List Value} {v:Value} {l:List α} [h:eX w0 H v α size f l]:One w0 H v:=⟨fun w hs=>by
 obtain⟨A,c,rfl,_⟩:=(h.at_ w hs).form;rfl⟩
class LO (w0:World) (H:af) (vs:List Value):Prop where ok:∀w,Sat w0 w H→∀u∈vs,u.oneCell'=true
instance RY:LO w0 H []:=⟨fun _ _ u hu=>by cases hu⟩
instance Qk {v:Value} {vs:List Value} [h1:One w0 H v] [h2:LO w0 H vs]:LO w0 H (v::vs):=⟨fun w hs u hu=>by
 rcases List.mem_cons.1 hu with rfl|hu
 ·exact h1.ok w hs
 ·exact h2.ok w hs u hu⟩
theorem cn.whole {o:Oper} {α:Type} {v:α→Value} {post:α→af} (h:∀G a w (K:Act→World→Prop) (Q:Exit→Act→World→Prop),fV n E a→Sat w0 w (H*G)→(∀x w',Sat w0 w' (post x*G)→K (a.put o.dst (v x)) w')→o.wp P a w K Q):cn P n w0 o E H v post:=
 ⟨H,post,emp,h,bl.symm,fun _=>bl.symm⟩
section
variable {ty:TypeId} {pos:String} {after:Array Edge} {gu:Option (Nat×Bool)} {x y:Operand} {v:Value}
theorem IN {t bt:TypeId} {g off:Nat} {cs nv:List Value} (hx:E.ev x=some (ptr g off)) (hy:E.ev y=some v) (ht:fi P t) (h1:One w0 H v) (hl:cZ H g bt cs F) (tM:iW cs off [v]=some nv):
 cn P n w0 ⟨none,.store t x y,ty,pos,after,gu⟩ E H (fun _:Unit=>undef) (fun _=>aK g bt nv*F):=cn.whole fun G a w K Q s hs hK=>by
 have xc:=h1.ok w hs.Cq
 have eI:Sat w0 w (aK g bt cs*(F*G)):=hs.cast (by rw[hl.eq,ad])
 obtain⟨w',hr,OY⟩:=iP (P:=P) (t:=t) (vs:=[v]) w eI ht.size (cells_one xc) (by simpa using xc) tM
 have:=hK () w' (OY.cast (ad _ _ _).symm)
 simp only[Act.put]at this
 simp only[Oper.wp,execOp,s.ev hx,s.ev hy,Instr.storeAt,Instr.sureAddr,Sem.run_bind,Sem.run_pure,Result.andThen_ok,hr,Oper.upon_skip]
 exact this
theorem GG {t bt:TypeId} {g off:Nat} {cs nv vs:List Value} (hx:E.ev x=some (ptr g off)) (hy:E.ev y=some (.agg vs.toArray)) (ht:mN P t vs.length) (hl:cZ H g bt cs F) (h1:LO w0 H vs) (tM:iW cs off vs=some nv):
 cn P n w0 ⟨none,.store t x y,ty,pos,after,gu⟩ E H (fun _:Unit=>undef) (fun _=>aK g bt nv*F):=cn.whole fun G a w K Q s hs hK=>by
 have xc:=h1.ok w hs.Cq
 have eI:Sat w0 w (aK g bt cs*(F*G)):=hs.cast (by rw[hl.eq,ad])
 obtain⟨w',hr,OY⟩:=iP (P:=P) (t:=t) (vs:=vs) (val:= .agg vs.toArray) w eI ht.size rfl xc tM
 have:=hK () w' (OY.cast (ad _ _ _).symm)
 simp only[Act.put]at this
 simp only[Oper.wp,execOp,s.ev hx,s.ev hy,Instr.storeAt,Instr.sureAddr,Sem.run_bind,Sem.run_pure,Result.andThen_ok,hr,Oper.upon_skip]
 exact this
theorem NS {d:Option Tmp} {t:TypeId} (hx:E.ev x=some v) (h1:One w0 H v):cn P n w0 ⟨d,.box t x,ty,pos,after,gu⟩ E H (fun g=>ptr g 0) (fun g=>aK g t [v]*H):=cn.whole fun G a w K Q s hs hK=>by
 have hc:v.cells=[v].toArray:=cells_one (h1.ok w hs.Cq)
 have hr:(execOp a.eval ⟨d,.box t x,ty,pos,after,gu⟩).run P w= .ok (.value (ptr w.heap.size 0)) (w.alloc (.cells [v].toArray t)):=by
  simp[execOp,s.ev hx,Instr.box,newVar,newRow,hc]
 unfold Oper.wp
 rw[hr]
 exact hK w.heap.size _ ((hs.new t [v].toArray).cast (ad _ _ _).symm)
end
theorem iU {α:Type} {p:α→af} {c:Code} (h:∀x,WS P n w0 c Q ⟨E,D,p x*F⟩):WS P n w0 c Q ⟨E,D,hex p*F⟩:=fun a w g=>by
 obtain⟨x,hx⟩:=g.sat.ex
 exact h x a w ⟨g.dQ,g.defers,hx⟩
theorem DD {α:Type} {p:α→af} (h:∀x,LS P n w0 ops Q l' ⟨E,D,p x*F⟩):LS P n w0 ops Q l' ⟨E,D,hex p*F⟩:=fun a w g=>by
 obtain⟨x,hx⟩:=g.sat.ex
 exact h x a w ⟨g.dQ,g.defers,hx⟩
theorem jR {φ:Prop} {c:Code} (h:φ→WS P n w0 c Q ⟨E,D,F⟩):WS P n w0 c Q ⟨E,D,pure' φ*F⟩:=fun a w g=>by
 obtain⟨hf,hs⟩:=g.sat.pure
 exact h hf a w ⟨g.dQ,g.defers,hs⟩
theorem aq.qA {α:Type} {p:α→af} (x:α):aq (p x*F) (hex p*F):=fun h ⟨a,b,hd,e,hp,hq⟩=>⟨h,⟨a,b,hd,e,⟨x,hp⟩,hq⟩,fun _ _ e=>e⟩
theorem aq.vW {φ:Prop} (hf:φ):aq F (pure' φ*F):=fun h hh=>⟨h,ki.2 ⟨hf,hh⟩,fun _ _ e=>e⟩
theorem Spec.ob {α β:Type} {f:FuncId} {args:List Value} {pre Sa:af} {res:α→Value} {post:α→af} {Db:β→Value} {mr:β→af} (h:Spec P w0 f args pre res post) (hp:aq Sa pre) (hw:∀x,∃y,res x=Db y∧aq (post x) (mr y)):Spec P w0 f args Sa Db mr:=fun G w hs=>
 (h G w ((aq.star hp (aq.refl G)).sat hs)).mono fun e w' ⟨x,hx,eI⟩=>by
  obtain⟨y,e1,e2⟩:=hw x
  exact⟨y,by rw[hx,e1],(aq.star e2 (aq.refl G)).sat eI⟩
section
variable {d:Option Tmp} {ty:TypeId} {pos:String} {after:Array Edge} {gu:Option (Nat×Bool)} {x y:Operand}
theorem fq {α:Type} (f:α→List Value) {t e:TypeId} {size:Nat} (ht:eN P t (.slice e)) (hs:GL P e size):
 cn P n w0 ⟨d,.buildSlice t 0 #[],ty,pos,after,gu⟩ E H (fun v':Value=>v') (fun v'=>rows e size f v' []*H):=
 (yq ht hs).ob fun g=>⟨_,rfl,(aq.drop _ _).trans (aq.nil _ _ _ _ _)⟩
theorem au {α:Type} (f:α→List Value) (ys:List α) {t e:TypeId} {len size:Nat} {parts:List (Nat×Operand)} {vs:List (Nat×Value)} {z:Value} {zs cs:List Value} (ht:eN P t (.slice e)) (hz:Zero P e z zs) (hs:GL P e size) (hl:Nat.beq zs.length size=true) (Ru:Nat.ble (len*size) 16777216=true) (rX:Nat.blt 0 (len*size)=true) (hv:E.kh parts=some vs) (hb:Od size (j4 zs len) vs=some cs) (hf:cY f size) (hc:cs=ys.flatMap f) (hm:ys.length=len) (Hk:Nat.ble len 1000000=true):
 cn P n w0 ⟨d,.buildSlice t len parts.toArray,ty,pos,after,gu⟩ E H (fun v':Value=>v') (fun v'=>rows e size f v' ys*H):=
 (rl ht hz hs hl Ru rX hv hb).ob fun g=>⟨_,rfl,aq.Dc ys hc hm (Nat.le_of_ble_eq_true Hk)⟩
end
theorem aq.Pu {α:Type} {e:TypeId} {size:Nat} {f:α→List Value} {A:Option Addr} {F':af} (r:aq H F'):aq H (rows e size f (.slice A 0 0) []*F'):=r.trans (aq.nil _ _ _ _ _)
theorem dH {α:Type} {t e:TypeId} {size bytes:Nat} {f f':α→List Value} {v u:Value} {l ys:List α} {d:Option Tmp} {ty:TypeId} {pos:String} {after:Array Edge} {gu:Option (Nat×Bool)} {x y:Operand} (X:af) (hx:E.ev x=some v) (hy:E.ev y=some u) (hl:dD H v α e size f l F) (hX:eX w0 X u α size f' ys) (hF:Own F X F2) (Hj:f'=f) (hT:lj P t e size bytes) (hf:cY f size) (h1:∀z,∀c∈f z,c.oneCell'=true) (hn:l.length+ys.length≤1000000) (uX:Nat.ble bytes 1000=true):
 cn P n w0 ⟨d,.call ⟨.builtin .append,#[x,y],#[t,t]⟩,ty,pos,after,gu⟩ E H (fun v':Value=>v') (fun v'=>rows e size f v' (l++ys)*(X*F2)):=GF X hx hy hl hX hF.eq Hj hT hf h1 hn uX
def JL:List Oper→Nat→Option Oper
 |[],_=>none
 |o::_,0=>some o
 |_::r,i+1=>JL r i
def jK (l:List Oper):List Nat→Option (List Oper)
 |[]=>some []
 |i::r=>match JL l i,jK l r with
  |some o,some r'=>some (o::r')
  |_,_=>none
theorem FQ:∀(l:List Oper) (i:Nat),JL l i=l[i]?
 |[],i=>by simp[JL]
 |o::r,0=>rfl
 |o::r,i+1=>by simp[JL,FQ r i]
theorem gO {l:List Oper}:∀{idx:List Nat} {l':List Oper},jK l idx=some l'→idx.map (l[·]?)=l'.map some
 |[],_,h=>by cases h;rfl
 |i::r,l',h=>by
  simp only[jK,FQ]at h
  split at h
  ·rename_i o r' h1 h2
   cases h
   simp[h1,gO h2]
  ·cases h
theorem BI {l l':List Oper} {id:Nat} (idx:List Nat) (hs:iT P l idx (fun _=>false) 1000=true) (hl:jK l idx=some l') (h:DL P n w0 l.toArray Q D H emp (fun _=>false) 1000 0 false l' E emp):WS P n w0 (.region id l.toArray true) Q ⟨E,D,H⟩:=
 iK idx l' H emp emp _ 1000 hs (by rw[aB,bl]) (gO hl) h
theorem ag {l l':List Oper} {id:Nat} (idx:List Nat) (h:DL P n w0 l.toArray Q D H emp (fun _=>false) 1000 0 false l' E emp) (hs:iT P l idx (fun _=>false) 1000=true:=by decide+kernel) (hl:jK l idx=some l':=by rfl):WS P n w0 (.region id l.toArray true) Q ⟨E,D,H⟩:=BI idx hs hl h
def yA (bs:List Nat) (k:Nat):Bool:=bs.any (Nat.beq k)
theorem I6 {l l':List Oper} {id:Nat} (idx:List Nat) (cp:Nat) (bs:List Nat) (hs:iT P l idx (yA bs) cp=true) (hl:jK l idx=some l') (h:DL P n w0 l.toArray Q D emp H (yA bs) cp 0 false l' E emp):WS P n w0 (.region id l.toArray true) Q ⟨E,D,H⟩:=
 iK idx l' emp H emp _ cp hs (by rw[bl,aB]) (gO hl) h
theorem ae {l l':List Oper} {id:Nat} (idx:List Nat) (cp:Nat) (bs:List Nat) (h:DL P n w0 l.toArray Q D emp H (yA bs) cp 0 false l' E emp) (hs:iT P l idx (yA bs) cp=true:=by decide+kernel) (hl:jK l idx=some l':=by rfl):WS P n w0 (.region id l.toArray true) Q ⟨E,D,H⟩:=I6 idx cp bs hs hl h
theorem LH {L:af} {B:Nat→Bool} {k cp:Nat} (h:Q .normal ⟨E,D,R*F⟩):DL P n w0 ops Q D R L B cp k true [] E F:= .nil rfl h
theorem LD {B:Nat→Bool} {k cp:Nat} (h:Q .normal ⟨E,D,R⟩):DL P n w0 ops Q D R emp B cp k false [] E emp:= .nil (by simp only[hp,cond_false];rw[aB,bl]) h
theorem Bx {f:FuncId} {args:List Value} {v:Value} {d:Nat} {xs:List Operand} {ts:Array TypeId} {ty:TypeId} {pos:String} {after:Array Edge} {B:Nat→Bool} {L:af} {k cp:Nat} {c:Bool} {l:List Oper} (hf:aA P f) (eB:E.mU xs=some args) (spec:Spec P w0 f args R (fun _:Unit=>v) (fun _=>R)) (hd:Nat.blt d n.tmps=true)
 (h:DL P n w0 ops Q D R L B cp (k+1) c l ((d,v)::E) F):DL P n w0 ops Q D R L B cp k c (⟨some d,.call ⟨.value (.func f),xs.toArray,ts⟩,ty,pos,after,none⟩::l) E F:=
 M0 rfl rfl hd (fun F' a w K Q s hs hK=>by
  have key:∀X,Sat w0 w (R*X)→(∀w',Sat w0 w' (R*X)→K (a.put (some d) v) w')→(⟨some d,.call ⟨.value (.func f),xs.toArray,ts⟩,ty,pos,after,none⟩:Oper).wp P a w K Q:=fun X hs hK=>
   wq (d:=some d) (ty:=ty) (pos:=pos) (after:=after) (gu:=none) (ts:=ts) hf eB spec X a w K Q s hs fun _ w' eI=>hK w' eI
  cases c with
  |true=>exact key F' hs hK
  |false=>exact key (L*F') hs hK) h
end
section
structure Pk where
 bK:Int
 kind:Int
 aH:Int
 unknown:Bool
 id:UInt32
 dest:UInt32
 ak:UInt32
 from_:UInt32
 av:UInt32
 bD:UInt32
 lost:List (UInt32×UInt32)
 ar:List UInt8
def Pk.cells (p:Pk) (v:Value):List Value:=
 [.int .i64 p.bK,.int .i64 p.kind,.int .i64 p.aH,.bool p.unknown,u32 p.id,u32 p.dest,u32 p.ak,u32 p.from_,u32 p.av,u32 p.bD,v,aZ p.ar]
def Pk.val (p:Pk) (v:Value):Value:= .agg (p.cells v).toArray
def cM (n:Int):Prop:= -9223372036854775808≤n∧n≤9223372036854775807
structure Pk.Ok (p:Pk):Prop where
 bK:cM p.bK
 kind:cM p.kind
 aH:cM p.aH
 lost:p.lost.length≤100000
 ar:p.ar.length≤100000
def Pk.Fits (p:Pk):Prop:=
 (1≤p.bK∧p.bK≤255∧0≤p.aH∧p.aH≤255∧p.ar.length≤16∧p.lost.length≤8)∧
 ((p.kind=1∧p.bD=0∧p.lost.length=0∧p.ar=[]∧(p.unknown=false∨p.ak=0))∨
  (p.kind=2∧p.unknown=false∧p.av=0∧p.id=0∧p.lost.length=0∧p.ar=[])∨
  (p.kind=3∧p.unknown=false∧p.av=0∧p.aH=0∧p.ak=0∧p.id=0∧p.bD=0∧0<p.lost.length∧p.dest=0∧p.from_=0∧p.ar=[])∨
  (p.kind=9∧p.unknown=false∧p.av=0∧p.aH=0∧p.ak=0∧p.bD=0∧p.lost.length=0))
instance (p:Pk):Decidable p.Fits:=by unfold Pk.Fits;infer_instance
def bB (x:UInt32×UInt32):List Value:=[u32 x.1,u32 x.2]
instance:cY bB 2:=⟨fun _=>rfl⟩
theorem lA:∀z,∀c∈bB z,c.oneCell'=true:=by intro z c hc;simp[bB]at hc;rcases hc with rfl|rfl<;>rfl
def fA (l:List UInt32):List UInt8:=l.flatMap be
def gi (l:List (UInt32×UInt32)):List UInt8:=l.flatMap fun x=>be x.1++be x.2
theorem jY (l:List (UInt32×UInt32)):(gi l).length=8*l.length:=by
 induction l with
 |nil=>rfl
 |cons a l ih=>simp[gi,al]at ih ⊢;omega
theorem vg (l:List (UInt32×UInt32)) (k:Nat) (x:UInt32×UInt32) (h:l[k]? =some x):gi (l.take (k+1))=gi (l.take k)++be x.1++be x.2:=by
 rw[List.take_add_one,h];simp[gi]
def Pk.bytes (p:Pk):List UInt8:=
 if p.kind=1 then [b8 p.bK,1,if p.unknown then 8 else 0,0,b8 p.aH]++be p.id++be p.dest++be p.ak++be p.from_++be p.av
 else if p.kind=2 then [b8 p.bK,2,0,0,b8 p.aH]++be p.dest++be p.ak++be p.from_++be p.bD
 else if p.kind=3 then [b8 p.bK,3,0,0,b8 p.lost.length]++gi p.lost
 else [b8 p.bK,9,0,0,b8 p.ar.length]++be p.id++be p.dest++be p.from_++p.ar
end
section
open Go.ChangeShapes Go.WideShapes Go.ChangeAt Go.RowKit Go.Deep
def Iw (t:TypeId) {α:Type} (f:α→List Value) (ok:World→α→Prop):Prop:=
 ∀{H:Type} {enc:TypeId×Value→H} {w:World} {base:Nat} {spare:Nat→Bool} {held:Bool} {n:Nat} {c:List Value} {y:DataW H×List MemPlace},DataW.trod enc Tryz.prog w base spare held n t c=some y→∃a,c=f a∧ok w a
def Pa (n:Int):List Value:=[.int .i64 n]
def K6 (x:UInt32):List Value:=[u32 x]
def PL (x:UInt64):List Value:=[u64 x]
def M8 (b:Bool):List Value:=[.bool b]
def MR (l:List UInt8):List Value:=[aZ l]
theorem vM {t:TypeId} (ht:Tryz.prog.underlying t=some (.int .i64)):Iw t Pa (fun _ n=>cM n):=fun h=>by
 obtain⟨n,rfl,_,hw⟩:=DataW.trod_int ht h
 exact⟨n,rfl,wf_i64 hw⟩
theorem kq {t:TypeId} (ht:Tryz.prog.underlying t=some (.int .u32)):Iw t K6 (fun _ _=>True):=fun h=>by
 obtain⟨n,rfl,_,hw⟩:=DataW.trod_int ht h
 obtain⟨k,rfl⟩:=wf_u32 hw
 exact⟨k,rfl,trivial⟩
theorem FO {t:TypeId} (ht:Tryz.prog.underlying t=some (.int .u64)):Iw t PL (fun _ _=>True):=fun h=>by
 obtain⟨n,rfl,_,hw⟩:=DataW.trod_int ht h
 obtain⟨k,rfl⟩:=wf_u64 hw
 exact⟨k,rfl,trivial⟩
theorem Jz {t:TypeId} (ht:Tryz.prog.underlying t=some .bool):Iw t M8 (fun _ _=>True):=fun h=>by
 obtain⟨b,rfl,_⟩:=DataW.trod_bool ht h
 exact⟨b,rfl,trivial⟩
theorem Au {t:TypeId} (ht:Tryz.prog.underlying t=some .string):Iw t MR (fun _ l=>l.length≤maxLen):=fun h=>by
 obtain⟨s,rfl,_,hs⟩:=DataW.trod_string ht h
 refine⟨s.data.toList,?_,by simpa using hs⟩
 show [Value.string s]=[Value.string ⟨s.data.toList.toArray⟩]
 simp
def Vj {α:Type} (x:Value×List α):List Value:=[x.1]
theorem zb {α:Type} {f:α→List Value} {ok:World→α→Prop} {size:Nat} {t e:TypeId} (hf:∀x,(f x).length=size) (hp:0<size) (ht:Tryz.prog.underlying t=some (.slice e)) (hC:Tryz.prog.cellsOf e=size) (hd:Iw e f ok):
 Iw t Vj (fun w x=>ix w size f x.1 x.2∧∀a∈x.2,ok w a):=fun {H enc w base spare held n c y} h=>by
 rcases open_slice ht h with ⟨rfl,_⟩|⟨a,len,cap,m,n,D,Pl,rfl,hb,hl,hm,XZ,hx,hi⟩
 ·exact⟨(.slice none 0 0,[]),rfl,⟨⟨none,0,rfl,Nat.le_refl _,Nat.zero_le _⟩,fun k hk=>absurd hk (Nat.not_lt_zero _)⟩,fun a ha=>by cases ha⟩
 ·have V7:len≤m:=by rw[XZ];split<;>omega
  have key:∀i,i<len→∃r:α,ok w r∧∀j u,(f r)[j]? =some u→w.cell? (a.add (i*size+j))=some u:=by
   intro i OD
   obtain⟨c,hc,xq⟩:=hi i (by omega)
   obtain⟨r,rfl,hr⟩:=hd xq
   rw[hC]at hc
   obtain⟨_,_,l5⟩:=World.cells?_some hc
   refine⟨r,hr,fun j u hu=> ?_⟩
   have hj:j<size:=by rw[←hf r];exact(List.getElem?_eq_some_iff.1 hu).1
   rw[←Go.Deep.add_add,l5 j hj,hu]
  have build:∀k,k≤len→∃l:List α,l.length=k∧(∀r∈l,ok w r)∧∀i (hi:i<l.length),∀j u,(f l[i])[j]? =some u→w.cell? (a.add (i*size+j))=some u:=by
   intro k
   induction k with
   |zero=>intro _;exact⟨[],rfl,by simp,fun i hi=>by simp at hi⟩
   |succ k ih=>
    intro hk
    obtain⟨l,Eo,SU,SS⟩:=ih (by omega)
    obtain⟨r,S0,hr⟩:=key k (by omega)
    refine⟨l++[r],by simp[Eo],?_,fun i hi j u hu=> ?_⟩
    ·intro x hx
     rcases List.mem_append.1 hx with hx|hx
     ·exact SU x hx
     ·simp at hx;subst hx;exact S0
    ·by_cases qE:i<l.length
     ·rw[List.getElem_append_left qE]at hu
      exact SS i qE j u hu
     ·simp at hi
      have:i=l.length:=by omega
      subst this
      simp at hu
      rw[Eo];exact hr j u hu
  obtain⟨l,Eo,SU,SS⟩:=build len (Nat.le_refl _)
  subst Eo
  refine⟨(.slice (some a) l.length cap,l),rfl,⟨⟨some a,cap,rfl,hl,hm⟩,fun k hk=> ?_⟩,SU⟩
  have hz:0<l.length:=Nat.lt_of_le_of_lt (Nat.zero_le _) hk
  have h0:∃u,(f l[0])[0]? =some u:=⟨(f l[0])[0]'(by rw[hf];exact hp),List.getElem?_eq_getElem _⟩
  obtain⟨u0,RB⟩:=h0
  have SL:=SS 0 hz 0 u0 RB
  rw[Nat.zero_mul]at SL
  have No:a=⟨a.block,a.off,none⟩:=by
   obtain⟨b,o,s⟩:=a
   cases s with
   |none=>rfl
   |some s=>simp[World.cell?,Addr.add]at SL;split at SL<;>simp at SL
  refine⟨a.block,a.off,cap,by rw[←No],fun j u hj hu=> ?_⟩
  have:=SS k hk j u hu
  rw[No,add_lit]at this
  exact this
theorem ix.WD {α:Type} {w:World} {size:Nat} {f:α→List Value} {v:Value} {l:List α} (h:ix w size f v l):eX w (yn w) v α size f l:=⟨fun w' hs=>by
 have eI:Sat w w' (yn w*emp):=hs.cast bl.symm
 refine⟨h.form,fun k hk=> ?_⟩
 obtain⟨g,off,cap,hv,hc⟩:=h.cell k hk
 exact⟨g,off,cap,hv,fun j u hj hu=>eI.KE (hc j u hj hu)⟩⟩
theorem Spec.law {f:FuncId} {args:List Value} {w:World} (h:Spec Tryz.prog w f args (yn w) (fun _:Unit=> .bool true) (fun _=>yn w)):Calls Tryz.prog f args.toArray w fun e w'=>e= .returned (.bool true)∧Below w.heap.size w w':=
 (h emp w ((Sat.start w).cast bl.symm)).mono fun e w' ⟨_,he,hs⟩=>⟨he,hs.ends⟩
theorem JC:Iw 180 bB (fun _ _=>True):=fun {H enc w base spare held n c y} h=>by
 obtain⟨hl,ys,m,_,_,hf⟩:=sM Tryz.underlying180 (by kernel_rfl) (by kernel_rfl) h
 obtain⟨v0,y0,e0,_,t0⟩:=hf 0 _ rfl
 obtain⟨v1,y1,e1,_,t1⟩:=hf 1 _ rfl
 obtain⟨a,q0,_⟩:=kq Tryz.underlying26 t0
 obtain⟨b,q1,_⟩:=kq Tryz.underlying26 t1
 refine⟨(a,b),?_,trivial⟩
 simp only[K6,List.cons.injEq,and_true]at q0 q1
 subst q0;subst q1
 match c,hl with
 |[c0,c1],_=>simp at e0 e1;subst e0;subst e1;rfl
theorem D3:Iw 44 (fun x:Pk×Value=>x.1.cells x.2) (fun w x=>cM x.1.bK∧cM x.1.kind∧cM x.1.aH∧x.1.ar.length≤maxLen∧ix w 2 bB x.2 x.1.lost):=fun {H enc w base spare held n c y} h=>by
 obtain⟨hl,ys,m,_,_,hf⟩:=sM Tryz.underlying44 (by kernel_rfl) (by kernel_rfl) h
 obtain⟨v0,y0,e0,_,t0⟩:=hf 0 _ rfl
 obtain⟨v1,y1,e1,_,t1⟩:=hf 1 _ rfl
 obtain⟨v2,y2,e2,_,t2⟩:=hf 2 _ rfl
 obtain⟨v3,y3,e3,_,t3⟩:=hf 3 _ rfl
 obtain⟨v4,y4,e4,_,t4⟩:=hf 4 _ rfl
 obtain⟨v5,y5,e5,_,t5⟩:=hf 5 _ rfl
 obtain⟨v6,y6,e6,_,t6⟩:=hf 6 _ rfl
 obtain⟨v7,y7,e7,_,t7⟩:=hf 7 _ rfl
 obtain⟨v8,y8,e8,_,t8⟩:=hf 8 _ rfl
 obtain⟨v9,y9,e9,_,t9⟩:=hf 9 _ rfl
 obtain⟨v10,Zo,VB,_,t10⟩:=hf 10 _ rfl
 obtain⟨v11,Zp,VC,_,t11⟩:=hf 11 _ rfl
 obtain⟨a0,q0,k0⟩:=vM Tryz.underlying3 t0
 obtain⟨a1,q1,k1⟩:=vM Tryz.underlying41 t1
 obtain⟨a2,q2,k2⟩:=vM Tryz.underlying3 t2
 obtain⟨a3,q3,k3⟩:=Jz Tryz.underlying4 t3
 obtain⟨a4,q4,k4⟩:=kq Tryz.underlying26 t4
 obtain⟨a5,q5,k5⟩:=kq Tryz.underlying26 t5
 obtain⟨a6,q6,k6⟩:=kq Tryz.underlying26 t6
 obtain⟨a7,q7,k7⟩:=kq Tryz.underlying26 t7
 obtain⟨a8,q8,k8⟩:=kq Tryz.underlying26 t8
 obtain⟨a9,q9,k9⟩:=kq Tryz.underlying26 t9
 obtain⟨⟨Sx,Yw⟩,Ve,Yu,_⟩:=zb (f:=bB) (size:=2) (fun _=>rfl) (by decide) Tryz.underlying42 (by kernel_rfl) JC t10
 obtain⟨Sy,WB,Yv⟩:=Au Tryz.underlying9 t11
 refine⟨(⟨a0,a1,a2,a3,a4,a5,a6,a7,a8,a9,Yw,Sy⟩,Sx),?_,k0,k1,k2,Yv,Yu⟩
 simp only[Pa,K6,M8,MR,Vj,List.cons.injEq,and_true]at q0 q1 q2 q3 q4 q5 q6 q7 q8 q9 Ve WB
 subst q0 q1 q2 q3 q4 q5 q6 q7 q8 q9 Ve WB
 match c,hl with
 |[c0,c1,c2,c3,c4,c5,c6,c7,c8,c9,PU,PV],_=>
  simp at e0 e1 e2 e3 e4 e5 e6 e7 e8 e9 VB VC
  subst e0 e1 e2 e3 e4 e5 e6 e7 e8 e9 VB VC;rfl
theorem vL {t:TypeId} {α:Type} {f:α→List Value} {ok:World→α→Prop} (hd:Iw t f ok) {H:Type} {enc:TypeId×Value→H} {w:World} {base:Nat} {spare:Nat→Bool} {held:Bool} {v:Value} {d:DataW H} {ps:List MemPlace} (h:DataW.Trod enc Tryz.prog w base spare held t v d ps):∃a,v.cells.toList=f a∧ok w a:=by
 obtain⟨n,hn⟩:=h
 exact hd hn
end
section
open Go.ChangeShapes Go.WideShapes Go.ChangeAt Go.RowKit Go.Deep
theorem GU {α:Type} {f:α→List Value} {ok:World→α→Prop} {size:Nat} {t e:TypeId} (hf:∀x,(f x).length=size) (hp:0<size) (ht:Tryz.prog.underlying t=some (.slice e)) (hC:Tryz.prog.cellsOf e=size) (hd:Iw e f ok) {H:Type} {enc:TypeId×Value→H} {w:World} {base:Nat} {spare:Nat→Bool} {held:Bool} {A:Option Addr} {n c:Nat} {d:DataW H} {ps:List MemPlace} (h:DataW.Trod enc Tryz.prog w base spare held t (.slice A n c) d ps):∃l:List α,ix w size f (.slice A n c) l∧∀a∈l,ok w a:=by
 obtain⟨⟨x,l⟩,hc,hR,hl⟩:=vL (zb hf hp ht hC hd) h
 obtain rfl:x= .slice A n c:=by simpa [Value.cells,Vj]using hc.symm
 exact⟨l,hR,hl⟩
end
section
instance:fi Tryz.prog 1:=⟨by kernel_rfl,by kernel_rfl⟩
instance:eN Tryz.prog 2 (.int .i64):=⟨by kernel_rfl⟩
instance:eN Tryz.prog 3 (.int .i64):=⟨by kernel_rfl⟩
instance:fi Tryz.prog 3:=⟨by kernel_rfl,by kernel_rfl⟩
instance:eN Tryz.prog 4 .bool:=⟨by kernel_rfl⟩
instance:fi Tryz.prog 4:=⟨by kernel_rfl,by kernel_rfl⟩
instance:Zero Tryz.prog 4 (.bool false) [(.bool false)]:=⟨by kernel_rfl,rfl⟩
instance:eN Tryz.prog 5 (.int .u8):=⟨by kernel_rfl⟩
instance:fi Tryz.prog 5:=⟨by kernel_rfl,by kernel_rfl⟩
instance:Zero Tryz.prog 5 (u8 0) [(u8 0)]:=⟨by kernel_rfl,rfl⟩
instance:eN Tryz.prog 9 .string:=⟨by kernel_rfl⟩
instance:fi Tryz.prog 9:=⟨by kernel_rfl,by kernel_rfl⟩
instance:Zero Tryz.prog 9 (aZ []) [(aZ [])]:=⟨by kernel_rfl,rfl⟩
instance:eN Tryz.prog 22 (.slice 28):=⟨by kernel_rfl⟩
instance:fi Tryz.prog 22:=⟨by kernel_rfl,by kernel_rfl⟩
instance:lj Tryz.prog 22 28 3 12:=⟨yt.of (z:=(.agg #[(.bool false),(u32 0),(u32 0)])) Tryz.underlying22 (by kernel_rfl) rfl (by decide)⟩
instance:eN Tryz.prog 23 (.slice 9):=⟨by kernel_rfl⟩
instance:lj Tryz.prog 23 9 1 16:=⟨yt.of (z:=(aZ [])) Tryz.underlying23 (by kernel_rfl) rfl (by decide)⟩
instance:Zero Tryz.prog 23 (.slice none 0 0) [(.slice none 0 0)]:=⟨by kernel_rfl,rfl⟩
instance:eN Tryz.prog 24 (.int .u64):=⟨by kernel_rfl⟩
instance:fi Tryz.prog 24:=⟨by kernel_rfl,by kernel_rfl⟩
instance:Zero Tryz.prog 24 (u64 0) [(u64 0)]:=⟨by kernel_rfl,rfl⟩
instance:eN Tryz.prog 25 (.slice 5):=⟨by kernel_rfl⟩
instance:fi Tryz.prog 25:=⟨by kernel_rfl,by kernel_rfl⟩
instance:lj Tryz.prog 25 5 1 1:=⟨yt.of (z:=(u8 0)) Tryz.underlying25 (by kernel_rfl) rfl (by decide)⟩
instance:eN Tryz.prog 26 (.int .u32):=⟨by kernel_rfl⟩
instance:fi Tryz.prog 26:=⟨by kernel_rfl,by kernel_rfl⟩
instance:Zero Tryz.prog 26 (u32 0) [(u32 0)]:=⟨by kernel_rfl,rfl⟩
instance:mN Tryz.prog 28 3:=⟨by kernel_rfl,by kernel_rfl⟩
instance:Zero Tryz.prog 28 (.agg #[(.bool false),(u32 0),(u32 0)]) [(.bool false),(u32 0),(u32 0)]:=⟨by kernel_rfl,rfl⟩
instance:eo Tryz.prog 28 0 0 4:=⟨0,by kernel_rfl⟩
instance:eo Tryz.prog 28 1 1 26:=⟨0,by kernel_rfl⟩
instance:eo Tryz.prog 28 2 2 26:=⟨0,by kernel_rfl⟩
instance:ee Tryz.prog 28 [(0,1),(1,1),(2,1)]:=⟨by kernel_rfl⟩
instance:eN Tryz.prog 30 (.pointer 94):=⟨by kernel_rfl⟩
instance:fi Tryz.prog 30:=⟨by kernel_rfl,by kernel_rfl⟩
instance:eN Tryz.prog 31 (.slice 48):=⟨by kernel_rfl⟩
instance:fi Tryz.prog 31:=⟨by kernel_rfl,by kernel_rfl⟩
instance:lj Tryz.prog 31 48 2 24:=⟨yt.of (z:=(.agg #[(u32 0),(aZ [])])) Tryz.underlying31 (by kernel_rfl) rfl (by decide)⟩
instance:eN Tryz.prog 32 (.slice 70):=⟨by kernel_rfl⟩
instance:fi Tryz.prog 32:=⟨by kernel_rfl,by kernel_rfl⟩
instance:lj Tryz.prog 32 70 2 24:=⟨yt.of (z:=(.agg #[(u32 0),(aZ [])])) Tryz.underlying32 (by kernel_rfl) rfl (by decide)⟩
instance:eN Tryz.prog 33 (.slice 166):=⟨by kernel_rfl⟩
instance:fi Tryz.prog 33:=⟨by kernel_rfl,by kernel_rfl⟩
instance:lj Tryz.prog 33 166 1 8:=⟨yt.of (z:=(.int .i64 0)) Tryz.underlying33 (by kernel_rfl) rfl (by decide)⟩
instance:mN Tryz.prog 35 5:=⟨by kernel_rfl,by kernel_rfl⟩
instance:Zero Tryz.prog 35 (.agg #[(aZ []),(.bool false),(.slice none 0 0),(.slice none 0 0),(.slice none 0 0)]) [(aZ []),(.bool false),(.slice none 0 0),(.slice none 0 0),(.slice none 0 0)]:=⟨by kernel_rfl,rfl⟩
instance:eo Tryz.prog 35 0 0 9:=⟨0,by kernel_rfl⟩
instance:eo Tryz.prog 35 1 1 4:=⟨0,by kernel_rfl⟩
instance:eo Tryz.prog 35 2 2 31:=⟨0,by kernel_rfl⟩
instance:eo Tryz.prog 35 3 3 32:=⟨0,by kernel_rfl⟩
instance:eo Tryz.prog 35 4 4 33:=⟨0,by kernel_rfl⟩
instance:ee Tryz.prog 35 [(0,1),(1,1),(2,1),(3,1),(4,1)]:=⟨by kernel_rfl⟩
instance:eN Tryz.prog 41 (.int .i64):=⟨by kernel_rfl⟩
instance:fi Tryz.prog 41:=⟨by kernel_rfl,by kernel_rfl⟩
instance:eN Tryz.prog 42 (.slice 180):=⟨by kernel_rfl⟩
instance:fi Tryz.prog 42:=⟨by kernel_rfl,by kernel_rfl⟩
instance:lj Tryz.prog 42 180 2 8:=⟨yt.of (z:=(.agg #[(u32 0),(u32 0)])) Tryz.underlying42 (by kernel_rfl) rfl (by decide)⟩
instance:Zero Tryz.prog 42 (.slice none 0 0) [(.slice none 0 0)]:=⟨by kernel_rfl,rfl⟩
instance:mN Tryz.prog 44 12:=⟨by kernel_rfl,by kernel_rfl⟩
instance:Zero Tryz.prog 44 (.agg #[(.int .i64 0),(.int .i64 0),(.int .i64 0),(.bool false),(u32 0),(u32 0),(u32 0),(u32 0),(u32 0),(u32 0),(.slice none 0 0),(aZ [])]) [(.int .i64 0),(.int .i64 0),(.int .i64 0),(.bool false),(u32 0),(u32 0),(u32 0),(u32 0),(u32 0),(u32 0),(.slice none 0 0),(aZ [])]:=⟨by kernel_rfl,rfl⟩
instance:eo Tryz.prog 44 0 0 3:=⟨0,by kernel_rfl⟩
instance:eo Tryz.prog 44 1 1 41:=⟨0,by kernel_rfl⟩
instance:eo Tryz.prog 44 2 2 3:=⟨0,by kernel_rfl⟩
instance:eo Tryz.prog 44 3 3 4:=⟨0,by kernel_rfl⟩
instance:eo Tryz.prog 44 4 4 26:=⟨0,by kernel_rfl⟩
instance:eo Tryz.prog 44 5 5 26:=⟨0,by kernel_rfl⟩
instance:eo Tryz.prog 44 6 6 26:=⟨0,by kernel_rfl⟩
instance:eo Tryz.prog 44 7 7 26:=⟨0,by kernel_rfl⟩
instance:eo Tryz.prog 44 8 8 26:=⟨0,by kernel_rfl⟩
instance:eo Tryz.prog 44 9 9 26:=⟨0,by kernel_rfl⟩
instance:eo Tryz.prog 44 10 10 42:=⟨0,by kernel_rfl⟩
instance:eo Tryz.prog 44 11 11 9:=⟨0,by kernel_rfl⟩
instance:ee Tryz.prog 44 [(0,1),(1,1),(2,1),(3,1),(4,1),(5,1),(6,1),(7,1),(8,1),(9,1),(10,1),(11,1)]:=⟨by kernel_rfl⟩
instance:mN Tryz.prog 48 2:=⟨by kernel_rfl,by kernel_rfl⟩
instance:Zero Tryz.prog 48 (.agg #[(u32 0),(aZ [])]) [(u32 0),(aZ [])]:=⟨by kernel_rfl,rfl⟩
instance:ee Tryz.prog 48 [(0,1),(1,1)]:=⟨by kernel_rfl⟩
instance:eN Tryz.prog 49 (.slice 53):=⟨by kernel_rfl⟩
instance:fi Tryz.prog 49:=⟨by kernel_rfl,by kernel_rfl⟩
instance:lj Tryz.prog 49 53 7 56:=⟨yt.of (z:=(.agg #[(u32 0),(u32 0),(.int .i64 0),(u32 0),(.bool false),(u64 0),(.slice none 0 0)])) Tryz.underlying49 (by kernel_rfl) rfl (by decide)⟩
instance:Zero Tryz.prog 49 (.slice none 0 0) [(.slice none 0 0)]:=⟨by kernel_rfl,rfl⟩
instance:eN Tryz.prog 51 (.slice 26):=⟨by kernel_rfl⟩
instance:fi Tryz.prog 51:=⟨by kernel_rfl,by kernel_rfl⟩
instance:lj Tryz.prog 51 26 1 4:=⟨yt.of (z:=(u32 0)) Tryz.underlying51 (by kernel_rfl) rfl (by decide)⟩
instance:mN Tryz.prog 53 7:=⟨by kernel_rfl,by kernel_rfl⟩
instance:Zero Tryz.prog 53 (.agg #[(u32 0),(u32 0),(.int .i64 0),(u32 0),(.bool false),(u64 0),(.slice none 0 0)]) [(u32 0),(u32 0),(.int .i64 0),(u32 0),(.bool false),(u64 0),(.slice none 0 0)]:=⟨by kernel_rfl,rfl⟩
instance:eo Tryz.prog 53 0 0 26:=⟨0,by kernel_rfl⟩
instance:eo Tryz.prog 53 1 1 26:=⟨0,by kernel_rfl⟩
instance:eo Tryz.prog 53 2 2 3:=⟨0,by kernel_rfl⟩
instance:eo Tryz.prog 53 3 3 26:=⟨0,by kernel_rfl⟩
instance:eo Tryz.prog 53 4 4 4:=⟨0,by kernel_rfl⟩
instance:eo Tryz.prog 53 5 5 24:=⟨0,by kernel_rfl⟩
instance:eo Tryz.prog 53 6 6 51:=⟨0,by kernel_rfl⟩
instance:ee Tryz.prog 53 [(0,1),(1,1),(2,1),(3,1),(4,1),(5,1),(6,1)]:=⟨by kernel_rfl⟩
instance:eN Tryz.prog 55 (.slice 101):=⟨by kernel_rfl⟩
instance:mN Tryz.prog 70 2:=⟨by kernel_rfl,by kernel_rfl⟩
instance:Zero Tryz.prog 70 (.agg #[(u32 0),(aZ [])]) [(u32 0),(aZ [])]:=⟨by kernel_rfl,rfl⟩
instance:ee Tryz.prog 70 [(0,1),(1,1)]:=⟨by kernel_rfl⟩
instance:fi Tryz.prog 90:=⟨by kernel_rfl,by kernel_rfl⟩
instance:Zero Tryz.prog 94 (.agg #[(.pointer none)]) [(.pointer none)]:=⟨by kernel_rfl,rfl⟩
instance:eo Tryz.prog 94 0 0 90:=⟨0,by kernel_rfl⟩
instance:ee Tryz.prog 94 [(0,1)]:=⟨by kernel_rfl⟩
instance:eN Tryz.prog 97 (.pointer 182):=⟨by kernel_rfl⟩
instance:mN Tryz.prog 101 16:=⟨by kernel_rfl,by kernel_rfl⟩
instance:Zero Tryz.prog 101 (.agg #[(.int .i64 0),(u32 0),(aZ []),(.int .i64 0),(.int .i64 0),(.int .i64 0),(.bool false),(u32 0),(u32 0),(u32 0),(u32 0),(u32 0),(u32 0),(.slice none 0 0),(aZ []),(u64 0)]) [(.int .i64 0),(u32 0),(aZ []),(.int .i64 0),(.int .i64 0),(.int .i64 0),(.bool false),(u32 0),(u32 0),(u32 0),(u32 0),(u32 0),(u32 0),(.slice none 0 0),(aZ []),(u64 0)]:=⟨by kernel_rfl,rfl⟩
instance:eo Tryz.prog 101 0 0 3:=⟨0,by kernel_rfl⟩
instance:eo Tryz.prog 101 1 1 26:=⟨0,by kernel_rfl⟩
instance:eo Tryz.prog 101 2 2 9:=⟨0,by kernel_rfl⟩
instance:eo Tryz.prog 101 3 3 44:=⟨11,by kernel_rfl⟩
instance:eo Tryz.prog 101 4 15 24:=⟨0,by kernel_rfl⟩
instance:fi Tryz.prog 125:=⟨by kernel_rfl,by kernel_rfl⟩
instance:fi Tryz.prog 139:=⟨by kernel_rfl,by kernel_rfl⟩
instance:eN Tryz.prog 141 (.map 26 26):=⟨by kernel_rfl⟩
instance:fi Tryz.prog 141:=⟨by kernel_rfl,by kernel_rfl⟩
instance:Zero Tryz.prog 143 (.agg #[(.slice none 0 0),(u32 0),(.map none)]) [(.slice none 0 0),(u32 0),(.map none)]:=⟨by kernel_rfl,rfl⟩
instance:eo Tryz.prog 143 0 0 22:=⟨0,by kernel_rfl⟩
instance:eo Tryz.prog 143 1 1 26:=⟨0,by kernel_rfl⟩
instance:eo Tryz.prog 143 2 2 141:=⟨0,by kernel_rfl⟩
instance:ee Tryz.prog 143 [(0,1),(1,1),(2,1)]:=⟨by kernel_rfl⟩
instance:eN Tryz.prog 144 (.map 269 24):=⟨by kernel_rfl⟩
instance:fi Tryz.prog 144:=⟨by kernel_rfl,by kernel_rfl⟩
instance:eN Tryz.prog 145 (.map 26 23):=⟨by kernel_rfl⟩
instance:fi Tryz.prog 145:=⟨by kernel_rfl,by kernel_rfl⟩
instance:eN Tryz.prog 146 (.map 26 245):=⟨by kernel_rfl⟩
instance:fi Tryz.prog 146:=⟨by kernel_rfl,by kernel_rfl⟩
instance:eN Tryz.prog 147 (.map 3 245):=⟨by kernel_rfl⟩
instance:fi Tryz.prog 147:=⟨by kernel_rfl,by kernel_rfl⟩
instance:fi Tryz.prog 148:=⟨by kernel_rfl,by kernel_rfl⟩
instance:Zero Tryz.prog 150 (.agg #[]) []:=⟨by kernel_rfl,rfl⟩
instance:ee Tryz.prog 150 []:=⟨by kernel_rfl⟩
instance:eo Tryz.prog 155 1 0 153:=⟨1,by kernel_rfl⟩
instance:eN Tryz.prog 156 (.slice 269):=⟨by kernel_rfl⟩
instance:fi Tryz.prog 156:=⟨by kernel_rfl,by kernel_rfl⟩
instance:lj Tryz.prog 156 269 2 8:=⟨yt.of (z:=(.agg #[(u32 0),(u32 0)])) Tryz.underlying156 (by kernel_rfl) rfl (by decide)⟩
instance:eN Tryz.prog 157 (.slice 24):=⟨by kernel_rfl⟩
instance:fi Tryz.prog 157:=⟨by kernel_rfl,by kernel_rfl⟩
instance:lj Tryz.prog 157 24 1 8:=⟨yt.of (z:=(u64 0)) Tryz.underlying157 (by kernel_rfl) rfl (by decide)⟩
instance:Zero Tryz.prog 159 (.agg #[(.int .i32 0),(u32 0),(u32 0),(u32 0),(.pointer none),(.slice none 0 0),(u32 0),(.map none),(u64 0),(.map none),(.slice none 0 0),(.map none),(.map none),(.map none),(.pointer none),(.int .i64 0),(u32 0),(u32 0),(.slice none 0 0),(u64 0),(aZ []),(.bool false),(.slice none 0 0),(.slice none 0 0),(.slice none 0 0)]) [(.int .i32 0),(u32 0),(u32 0),(u32 0),(.pointer none),(.slice none 0 0),(u32 0),(.map none),(u64 0),(.map none),(.slice none 0 0),(.map none),(.map none),(.map none),(.pointer none),(.int .i64 0),(u32 0),(u32 0),(.slice none 0 0),(u64 0),(aZ []),(.bool false),(.slice none 0 0),(.slice none 0 0),(.slice none 0 0)]:=⟨by kernel_rfl,rfl⟩
instance:eo Tryz.prog 159 0 0 155:=⟨1,by kernel_rfl⟩
instance:eo Tryz.prog 159 1 2 26:=⟨0,by kernel_rfl⟩
instance:eo Tryz.prog 159 2 3 26:=⟨0,by kernel_rfl⟩
instance:eo Tryz.prog 159 3 4 139:=⟨0,by kernel_rfl⟩
instance:eo Tryz.prog 159 4 5 143:=⟨2,by kernel_rfl⟩
instance:eo Tryz.prog 159 5 8 24:=⟨0,by kernel_rfl⟩
instance:eo Tryz.prog 159 6 9 144:=⟨0,by kernel_rfl⟩
instance:eo Tryz.prog 159 7 10 156:=⟨0,by kernel_rfl⟩
instance:eo Tryz.prog 159 8 11 145:=⟨0,by kernel_rfl⟩
instance:eo Tryz.prog 159 9 12 146:=⟨0,by kernel_rfl⟩
instance:eo Tryz.prog 159 10 13 147:=⟨0,by kernel_rfl⟩
instance:eo Tryz.prog 159 11 14 148:=⟨0,by kernel_rfl⟩
instance:eo Tryz.prog 159 12 15 3:=⟨0,by kernel_rfl⟩
instance:eo Tryz.prog 159 13 16 26:=⟨0,by kernel_rfl⟩
instance:eo Tryz.prog 159 14 17 26:=⟨0,by kernel_rfl⟩
instance:eo Tryz.prog 159 15 18 157:=⟨0,by kernel_rfl⟩
instance:eo Tryz.prog 159 16 19 24:=⟨0,by kernel_rfl⟩
instance:eo Tryz.prog 159 17 20 35:=⟨4,by kernel_rfl⟩
instance:ee Tryz.prog 159 [(0,2),(2,1),(3,1),(4,1),(5,3),(8,1),(9,1),(10,1),(11,1),(12,1),(13,1),(14,1),(15,1),(16,1),(17,1),(18,1),(19,1),(20,5)]:=⟨by kernel_rfl⟩
instance:fi Tryz.prog 166:=⟨by kernel_rfl,by kernel_rfl⟩
instance:Zero Tryz.prog 166 (.int .i64 0) [(.int .i64 0)]:=⟨by kernel_rfl,rfl⟩
instance:Zero Tryz.prog 171 .nilFunc [.nilFunc]:=⟨by kernel_rfl,rfl⟩
instance:eN Tryz.prog 172 (.map 41 171):=⟨by kernel_rfl⟩
instance:Zero Tryz.prog 176 (.agg #[(.slice none 0 0)]) [(.slice none 0 0)]:=⟨by kernel_rfl,rfl⟩
instance:eo Tryz.prog 176 0 0 25:=⟨0,by kernel_rfl⟩
instance:ee Tryz.prog 176 [(0,1)]:=⟨by kernel_rfl⟩
instance:mN Tryz.prog 180 2:=⟨by kernel_rfl,by kernel_rfl⟩
instance:Zero Tryz.prog 180 (.agg #[(u32 0),(u32 0)]) [(u32 0),(u32 0)]:=⟨by kernel_rfl,rfl⟩
instance:eo Tryz.prog 180 0 0 26:=⟨0,by kernel_rfl⟩
instance:eo Tryz.prog 180 1 1 26:=⟨0,by kernel_rfl⟩
instance:ee Tryz.prog 180 [(0,1),(1,1)]:=⟨by kernel_rfl⟩
instance:Zero Tryz.prog 182 (.agg #[(.pointer none),(.pointer none),(aZ []),(u64 0)]) [(.pointer none),(.pointer none),(aZ []),(u64 0)]:=⟨by kernel_rfl,rfl⟩
instance:eo Tryz.prog 182 0 0 30:=⟨0,by kernel_rfl⟩
instance:eo Tryz.prog 182 1 1 125:=⟨0,by kernel_rfl⟩
instance:eo Tryz.prog 182 2 2 9:=⟨0,by kernel_rfl⟩
instance:eo Tryz.prog 182 3 3 24:=⟨0,by kernel_rfl⟩
instance:ee Tryz.prog 182 [(0,1),(1,1),(2,1),(3,1)]:=⟨by kernel_rfl⟩
instance:fi Tryz.prog 190:=⟨by kernel_rfl,by kernel_rfl⟩
instance:eN Tryz.prog 191 (.slice 312):=⟨by kernel_rfl⟩
instance:fi Tryz.prog 191:=⟨by kernel_rfl,by kernel_rfl⟩
instance:lj Tryz.prog 191 312 3 16:=⟨yt.of (z:=(.agg #[(u32 0),(u32 0),(u64 0)])) Tryz.underlying191 (by kernel_rfl) rfl (by decide)⟩
instance:eN Tryz.prog 192 (.slice 243):=⟨by kernel_rfl⟩
instance:fi Tryz.prog 192:=⟨by kernel_rfl,by kernel_rfl⟩
instance:lj Tryz.prog 192 243 2 24:=⟨yt.of (z:=(.agg #[(u32 0),(aZ [])])) Tryz.underlying192 (by kernel_rfl) rfl (by decide)⟩
instance:eN Tryz.prog 193 (.slice 210):=⟨by kernel_rfl⟩
instance:fi Tryz.prog 193:=⟨by kernel_rfl,by kernel_rfl⟩
instance:lj Tryz.prog 193 210 6 48:=⟨yt.of (z:=(.agg #[(u32 0),(.int .i64 0),(.int .i64 0),(u64 0),(.int .i64 0),(.bool false)])) Tryz.underlying193 (by kernel_rfl) rfl (by decide)⟩
instance:Zero Tryz.prog 195 (.agg #[(u32 0),(u32 0),(.pointer none),(.slice none 0 0),(u64 0),(.slice none 0 0),(.slice none 0 0),(.slice none 0 0),(.int .i64 0),(u32 0),(u32 0),(.slice none 0 0),(u64 0),(aZ []),(.bool false),(.slice none 0 0),(.slice none 0 0),(.slice none 0 0),(.slice none 0 0),(u32 0)]) [(u32 0),(u32 0),(.pointer none),(.slice none 0 0),(u64 0),(.slice none 0 0),(.slice none 0 0),(.slice none 0 0),(.int .i64 0),(u32 0),(u32 0),(.slice none 0 0),(u64 0),(aZ []),(.bool false),(.slice none 0 0),(.slice none 0 0),(.slice none 0 0),(.slice none 0 0),(u32 0)]:=⟨by kernel_rfl,rfl⟩
instance:eo Tryz.prog 195 0 0 26:=⟨0,by kernel_rfl⟩
instance:eo Tryz.prog 195 1 1 26:=⟨0,by kernel_rfl⟩
instance:eo Tryz.prog 195 2 2 190:=⟨0,by kernel_rfl⟩
instance:eo Tryz.prog 195 3 3 22:=⟨0,by kernel_rfl⟩
instance:eo Tryz.prog 195 4 4 24:=⟨0,by kernel_rfl⟩
instance:eo Tryz.prog 195 5 5 191:=⟨0,by kernel_rfl⟩
instance:eo Tryz.prog 195 6 6 192:=⟨0,by kernel_rfl⟩
instance:eo Tryz.prog 195 7 7 193:=⟨0,by kernel_rfl⟩
instance:eo Tryz.prog 195 8 8 3:=⟨0,by kernel_rfl⟩
instance:eo Tryz.prog 195 9 9 26:=⟨0,by kernel_rfl⟩
instance:eo Tryz.prog 195 10 10 26:=⟨0,by kernel_rfl⟩
instance:eo Tryz.prog 195 11 11 157:=⟨0,by kernel_rfl⟩
instance:eo Tryz.prog 195 12 12 24:=⟨0,by kernel_rfl⟩
instance:eo Tryz.prog 195 13 13 35:=⟨4,by kernel_rfl⟩
instance:eo Tryz.prog 195 14 18 22:=⟨0,by kernel_rfl⟩
instance:eo Tryz.prog 195 15 19 26:=⟨0,by kernel_rfl⟩
instance:ee Tryz.prog 195 [(0,1),(1,1),(2,1),(3,1),(4,1),(5,1),(6,1),(7,1),(8,1),(9,1),(10,1),(11,1),(12,1),(13,5),(18,1),(19,1)]:=⟨by kernel_rfl⟩
instance:Zero Tryz.prog 197 (.agg #[(u32 0),(.slice none 0 0)]) [(u32 0),(.slice none 0 0)]:=⟨by kernel_rfl,rfl⟩
instance:eo Tryz.prog 197 0 0 26:=⟨0,by kernel_rfl⟩
instance:eo Tryz.prog 197 1 1 49:=⟨0,by kernel_rfl⟩
instance:ee Tryz.prog 197 [(0,1),(1,1)]:=⟨by kernel_rfl⟩
instance:mN Tryz.prog 210 6:=⟨by kernel_rfl,by kernel_rfl⟩
instance:Zero Tryz.prog 210 (.agg #[(u32 0),(.int .i64 0),(.int .i64 0),(u64 0),(.int .i64 0),(.bool false)]) [(u32 0),(.int .i64 0),(.int .i64 0),(u64 0),(.int .i64 0),(.bool false)]:=⟨by kernel_rfl,rfl⟩
instance:eo Tryz.prog 210 0 0 26:=⟨0,by kernel_rfl⟩
instance:eo Tryz.prog 210 1 1 3:=⟨0,by kernel_rfl⟩
instance:eo Tryz.prog 210 2 2 3:=⟨0,by kernel_rfl⟩
instance:eo Tryz.prog 210 3 3 24:=⟨0,by kernel_rfl⟩
instance:eo Tryz.prog 210 4 4 3:=⟨0,by kernel_rfl⟩
instance:eo Tryz.prog 210 5 5 4:=⟨0,by kernel_rfl⟩
instance:ee Tryz.prog 210 [(0,1),(1,1),(2,1),(3,1),(4,1),(5,1)]:=⟨by kernel_rfl⟩
instance:eN Tryz.prog 213 (.int .u64):=⟨by kernel_rfl⟩
instance:eN Tryz.prog 214 (.map 26 226):=⟨by kernel_rfl⟩
instance:fi Tryz.prog 214:=⟨by kernel_rfl,by kernel_rfl⟩
instance:Zero Tryz.prog 216 (.agg #[(u32 0),(.map none)]) [(u32 0),(.map none)]:=⟨by kernel_rfl,rfl⟩
instance:eo Tryz.prog 216 0 0 26:=⟨0,by kernel_rfl⟩
instance:eo Tryz.prog 216 1 1 214:=⟨0,by kernel_rfl⟩
instance:ee Tryz.prog 216 [(0,1),(1,1)]:=⟨by kernel_rfl⟩
instance:eN Tryz.prog 219 (.map 3 3):=⟨by kernel_rfl⟩
instance:fi Tryz.prog 219:=⟨by kernel_rfl,by kernel_rfl⟩
instance:eN Tryz.prog 220 (.slice 292):=⟨by kernel_rfl⟩
instance:fi Tryz.prog 220:=⟨by kernel_rfl,by kernel_rfl⟩
instance:lj Tryz.prog 220 292 3 24:=⟨yt.of (z:=(.agg #[(u64 0),(.int .i64 0),(.int .i64 0)])) Tryz.underlying220 (by kernel_rfl) rfl (by decide)⟩
instance:Zero Tryz.prog 222 (.agg #[(.slice none 0 0),(.map none),(.int .i64 0)]) [(.slice none 0 0),(.map none),(.int .i64 0)]:=⟨by kernel_rfl,rfl⟩
instance:eo Tryz.prog 222 0 0 220:=⟨0,by kernel_rfl⟩
instance:eo Tryz.prog 222 1 1 219:=⟨0,by kernel_rfl⟩
instance:eo Tryz.prog 222 2 2 3:=⟨0,by kernel_rfl⟩
instance:ee Tryz.prog 222 [(0,1),(1,1),(2,1)]:=⟨by kernel_rfl⟩
instance:Zero Tryz.prog 226 (.pointer none) [(.pointer none)]:=⟨by kernel_rfl,rfl⟩
instance:eN Tryz.prog 228 (.map 26 150):=⟨by kernel_rfl⟩
instance:fi Tryz.prog 228:=⟨by kernel_rfl,by kernel_rfl⟩
instance:Zero Tryz.prog 230 (.agg #[(u32 0),(u32 0),(.int .i64 0),(u32 0),(.bool false),(u64 0),(.slice none 0 0),(.map none)]) [(u32 0),(u32 0),(.int .i64 0),(u32 0),(.bool false),(u64 0),(.slice none 0 0),(.map none)]:=⟨by kernel_rfl,rfl⟩
instance:eo Tryz.prog 230 0 0 53:=⟨6,by kernel_rfl⟩
instance:eo Tryz.prog 230 1 7 228:=⟨0,by kernel_rfl⟩
instance:ee Tryz.prog 230 [(0,7),(7,1)]:=⟨by kernel_rfl⟩
instance:Zero Tryz.prog 232 (.agg #[]) []:=⟨by kernel_rfl,rfl⟩
instance:ee Tryz.prog 232 []:=⟨by kernel_rfl⟩
instance:mN Tryz.prog 243 2:=⟨by kernel_rfl,by kernel_rfl⟩
instance:Zero Tryz.prog 243 (.agg #[(u32 0),(aZ [])]) [(u32 0),(aZ [])]:=⟨by kernel_rfl,rfl⟩
instance:eo Tryz.prog 243 0 0 26:=⟨0,by kernel_rfl⟩
instance:eo Tryz.prog 243 1 1 9:=⟨0,by kernel_rfl⟩
instance:ee Tryz.prog 243 [(0,1),(1,1)]:=⟨by kernel_rfl⟩
instance:eN Tryz.prog 245 (.pointer 247):=⟨by kernel_rfl⟩
instance:Zero Tryz.prog 245 (.pointer none) [(.pointer none)]:=⟨by kernel_rfl,rfl⟩
instance:Zero Tryz.prog 247 (.agg #[(u32 0),(.int .i64 0),(.int .i64 0),(.bool false),(.int .i64 0),.nilFunc,(.pointer none)]) [(u32 0),(.int .i64 0),(.int .i64 0),(.bool false),(.int .i64 0),.nilFunc,(.pointer none)]:=⟨by kernel_rfl,rfl⟩
instance:eo Tryz.prog 247 0 0 26:=⟨0,by kernel_rfl⟩
instance:eo Tryz.prog 247 1 1 3:=⟨0,by kernel_rfl⟩
instance:eo Tryz.prog 247 2 2 3:=⟨0,by kernel_rfl⟩
instance:eo Tryz.prog 247 3 3 4:=⟨0,by kernel_rfl⟩
instance:eo Tryz.prog 247 4 4 3:=⟨0,by kernel_rfl⟩
instance:eo Tryz.prog 247 5 5 1:=⟨0,by kernel_rfl⟩
instance:eo Tryz.prog 247 6 6 90:=⟨0,by kernel_rfl⟩
instance:ee Tryz.prog 247 [(0,1),(1,1),(2,1),(3,1),(4,1),(5,1),(6,1)]:=⟨by kernel_rfl⟩
instance:eN Tryz.prog 252 (.map 28 26):=⟨by kernel_rfl⟩
instance:fi Tryz.prog 252:=⟨by kernel_rfl,by kernel_rfl⟩
instance:mN Tryz.prog 269 2:=⟨by kernel_rfl,by kernel_rfl⟩
instance:Zero Tryz.prog 269 (.agg #[(u32 0),(u32 0)]) [(u32 0),(u32 0)]:=⟨by kernel_rfl,rfl⟩
instance:ee Tryz.prog 269 [(0,1),(1,1)]:=⟨by kernel_rfl⟩
instance:mN Tryz.prog 292 3:=⟨by kernel_rfl,by kernel_rfl⟩
instance:Zero Tryz.prog 292 (.agg #[(u64 0),(.int .i64 0),(.int .i64 0)]) [(u64 0),(.int .i64 0),(.int .i64 0)]:=⟨by kernel_rfl,rfl⟩
instance:eo Tryz.prog 292 0 0 24:=⟨0,by kernel_rfl⟩
instance:eo Tryz.prog 292 1 1 3:=⟨0,by kernel_rfl⟩
instance:eo Tryz.prog 292 2 2 3:=⟨0,by kernel_rfl⟩
instance:ee Tryz.prog 292 [(0,1),(1,1),(2,1)]:=⟨by kernel_rfl⟩
instance:eN Tryz.prog 304 (.array 5 26):=⟨by kernel_rfl⟩
instance:Zero Tryz.prog 304 (.agg #[(u32 0),(u32 0),(u32 0),(u32 0),(u32 0)]) [(u32 0),(u32 0),(u32 0),(u32 0),(u32 0)]:=⟨by kernel_rfl,rfl⟩
instance:eN Tryz.prog 305 (.array 4 26):=⟨by kernel_rfl⟩
instance:Zero Tryz.prog 305 (.agg #[(u32 0),(u32 0),(u32 0),(u32 0)]) [(u32 0),(u32 0),(u32 0),(u32 0)]:=⟨by kernel_rfl,rfl⟩
instance:eN Tryz.prog 306 (.array 3 26):=⟨by kernel_rfl⟩
instance:Zero Tryz.prog 306 (.agg #[(u32 0),(u32 0),(u32 0)]) [(u32 0),(u32 0),(u32 0)]:=⟨by kernel_rfl,rfl⟩
instance:mN Tryz.prog 312 3:=⟨by kernel_rfl,by kernel_rfl⟩
instance:Zero Tryz.prog 312 (.agg #[(u32 0),(u32 0),(u64 0)]) [(u32 0),(u32 0),(u64 0)]:=⟨by kernel_rfl,rfl⟩
instance:eo Tryz.prog 312 0 0 26:=⟨0,by kernel_rfl⟩
instance:eo Tryz.prog 312 1 1 26:=⟨0,by kernel_rfl⟩
instance:eo Tryz.prog 312 2 2 24:=⟨0,by kernel_rfl⟩
instance:ee Tryz.prog 312 [(0,1),(1,1),(2,1)]:=⟨by kernel_rfl⟩
instance:aA Tryz.prog 11:=⟨_,Tryz.func11,by decide+kernel,rfl⟩
instance:aA Tryz.prog 12:=⟨_,Tryz.func12,by decide+kernel,rfl⟩
instance:aA Tryz.prog 13:=⟨_,Tryz.func13,by decide+kernel,rfl⟩
instance:aA Tryz.prog 15:=⟨_,Tryz.func15,by decide+kernel,rfl⟩
instance:aA Tryz.prog 16:=⟨_,Tryz.func16,by decide+kernel,rfl⟩
instance:aA Tryz.prog 31:=⟨_,Tryz.func31,by decide+kernel,rfl⟩
instance:aA Tryz.prog 32:=⟨_,Tryz.func32,by decide+kernel,rfl⟩
instance:aA Tryz.prog 33:=⟨_,Tryz.func33,by decide+kernel,rfl⟩
instance:aA Tryz.prog 34:=⟨_,Tryz.func34,by decide+kernel,rfl⟩
instance:aA Tryz.prog 35:=⟨_,Tryz.func35,by decide+kernel,rfl⟩
instance:aA Tryz.prog 36:=⟨_,Tryz.func36,by decide+kernel,rfl⟩
instance:aA Tryz.prog 37:=⟨_,Tryz.func37,by decide+kernel,rfl⟩
instance:aA Tryz.prog 38:=⟨_,Tryz.func38,by decide+kernel,rfl⟩
instance:aA Tryz.prog 45:=⟨_,Tryz.func45,by decide+kernel,rfl⟩
instance:aA Tryz.prog 46:=⟨_,Tryz.func46,by decide+kernel,rfl⟩
instance:aA Tryz.prog 49:=⟨_,Tryz.func49,by decide+kernel,rfl⟩
instance:aA Tryz.prog 51:=⟨_,Tryz.func51,by decide+kernel,rfl⟩
instance:aA Tryz.prog 54:=⟨_,Tryz.func54,by decide+kernel,rfl⟩
instance:aA Tryz.prog 55:=⟨_,Tryz.func55,by decide+kernel,rfl⟩
instance:aA Tryz.prog 56:=⟨_,Tryz.func56,by decide+kernel,rfl⟩
instance:aA Tryz.prog 57:=⟨_,Tryz.func57,by decide+kernel,rfl⟩
instance:aA Tryz.prog 58:=⟨_,Tryz.func58,by decide+kernel,rfl⟩
instance:aA Tryz.prog 59:=⟨_,Tryz.func59,by decide+kernel,rfl⟩
instance:aA Tryz.prog 60:=⟨_,Tryz.func60,by decide+kernel,rfl⟩
instance:aA Tryz.prog 61:=⟨_,Tryz.func61,by decide+kernel,rfl⟩
instance:aA Tryz.prog 62:=⟨_,Tryz.func62,by decide+kernel,rfl⟩
instance:aA Tryz.prog 63:=⟨_,Tryz.func63,by decide+kernel,rfl⟩
instance:aA Tryz.prog 64:=⟨_,Tryz.func64,by decide+kernel,rfl⟩
instance:aA Tryz.prog 65:=⟨_,Tryz.func65,by decide+kernel,rfl⟩
instance:aA Tryz.prog 66:=⟨_,Tryz.func66,by decide+kernel,rfl⟩
instance:aA Tryz.prog 67:=⟨_,Tryz.func67,by decide+kernel,rfl⟩
instance:aA Tryz.prog 68:=⟨_,Tryz.func68,by decide+kernel,rfl⟩
instance:aA Tryz.prog 69:=⟨_,Tryz.func69,by decide+kernel,rfl⟩
instance:aA Tryz.prog 70:=⟨_,Tryz.func70,by decide+kernel,rfl⟩
instance:aA Tryz.prog 71:=⟨_,Tryz.func71,by decide+kernel,rfl⟩
instance:aA Tryz.prog 72:=⟨_,Tryz.func72,by decide+kernel,rfl⟩
instance:aA Tryz.prog 73:=⟨_,Tryz.func73,by decide+kernel,rfl⟩
instance:aA Tryz.prog 74:=⟨_,Tryz.func74,by decide+kernel,rfl⟩
instance:aA Tryz.prog 75:=⟨_,Tryz.func75,by decide+kernel,rfl⟩
instance:aA Tryz.prog 76:=⟨_,Tryz.func76,by decide+kernel,rfl⟩
instance:aA Tryz.prog 77:=⟨_,Tryz.func77,by decide+kernel,rfl⟩
instance:aA Tryz.prog 78:=⟨_,Tryz.func78,by decide+kernel,rfl⟩
instance:aA Tryz.prog 79:=⟨_,Tryz.func79,by decide+kernel,rfl⟩
instance:aA Tryz.prog 80:=⟨_,Tryz.func80,by decide+kernel,rfl⟩
instance:aA Tryz.prog 81:=⟨_,Tryz.func81,by decide+kernel,rfl⟩
instance:aA Tryz.prog 82:=⟨_,Tryz.func82,by decide+kernel,rfl⟩
instance:aA Tryz.prog 83:=⟨_,Tryz.func83,by decide+kernel,rfl⟩
instance:aA Tryz.prog 87:=⟨_,Tryz.func87,by decide+kernel,rfl⟩
instance:aA Tryz.prog 89:=⟨_,Tryz.func89,by decide+kernel,rfl⟩
instance:aA Tryz.prog 91:=⟨_,Tryz.func91,by decide+kernel,rfl⟩
instance:aA Tryz.prog 92:=⟨_,Tryz.func92,by decide+kernel,rfl⟩
instance:aA Tryz.prog 93:=⟨_,Tryz.func93,by decide+kernel,rfl⟩
instance:aA Tryz.prog 94:=⟨_,Tryz.func94,by decide+kernel,rfl⟩
instance:aA Tryz.prog 95:=⟨_,Tryz.func95,by decide+kernel,rfl⟩
instance:aA Tryz.prog 101:=⟨_,Tryz.func101,by decide+kernel,rfl⟩
instance:aA Tryz.prog 102:=⟨_,Tryz.func102,by decide+kernel,rfl⟩
instance:aA Tryz.prog 103:=⟨_,Tryz.func103,by decide+kernel,rfl⟩
instance:aA Tryz.prog 106:=⟨_,Tryz.func106,by decide+kernel,rfl⟩
instance:aA Tryz.prog 108:=⟨_,Tryz.func108,by decide+kernel,rfl⟩
instance:aA Tryz.prog 109:=⟨_,Tryz.func109,by decide+kernel,rfl⟩
instance:aA Tryz.prog 110:=⟨_,Tryz.func110,by decide+kernel,rfl⟩
instance:aA Tryz.prog 111:=⟨_,Tryz.func111,by decide+kernel,rfl⟩
instance:aA Tryz.prog 112:=⟨_,Tryz.func112,by decide+kernel,rfl⟩
instance:aA Tryz.prog 114:=⟨_,Tryz.func114,by decide+kernel,rfl⟩
instance:aA Tryz.prog 115:=⟨_,Tryz.func115,by decide+kernel,rfl⟩
instance:aA Tryz.prog 116:=⟨_,Tryz.func116,by decide+kernel,rfl⟩
instance:aA Tryz.prog 117:=⟨_,Tryz.func117,by decide+kernel,rfl⟩
instance:aA Tryz.prog 118:=⟨_,Tryz.func118,by decide+kernel,rfl⟩
instance:aA Tryz.prog 119:=⟨_,Tryz.func119,by decide+kernel,rfl⟩
instance:aA Tryz.prog 120:=⟨_,Tryz.func120,by decide+kernel,rfl⟩
instance:aA Tryz.prog 121:=⟨_,Tryz.func121,by decide+kernel,rfl⟩
instance:aA Tryz.prog 122:=⟨_,Tryz.func122,by decide+kernel,rfl⟩
instance:aA Tryz.prog 123:=⟨_,Tryz.func123,by decide+kernel,rfl⟩
instance:aA Tryz.prog 124:=⟨_,Tryz.func124,by decide+kernel,rfl⟩
instance:aA Tryz.prog 125:=⟨_,Tryz.func125,by decide+kernel,rfl⟩
instance:aA Tryz.prog 126:=⟨_,Tryz.func126,by decide+kernel,rfl⟩
instance:aA Tryz.prog 127:=⟨_,Tryz.func127,by decide+kernel,rfl⟩
instance:aA Tryz.prog 128:=⟨_,Tryz.func128,by decide+kernel,rfl⟩
instance:aA Tryz.prog 129:=⟨_,Tryz.func129,by decide+kernel,rfl⟩
instance:aA Tryz.prog 130:=⟨_,Tryz.func130,by decide+kernel,rfl⟩
instance:aA Tryz.prog 131:=⟨_,Tryz.func131,by decide+kernel,rfl⟩
instance:aA Tryz.prog 132:=⟨_,Tryz.func132,by decide+kernel,rfl⟩
instance:aA Tryz.prog 133:=⟨_,Tryz.func133,by decide+kernel,rfl⟩
instance:aA Tryz.prog 134:=⟨_,Tryz.func134,by decide+kernel,rfl⟩
instance:aA Tryz.prog 135:=⟨_,Tryz.func135,by decide+kernel,rfl⟩
instance:aA Tryz.prog 136:=⟨_,Tryz.func136,by decide+kernel,rfl⟩
instance:aA Tryz.prog 137:=⟨_,Tryz.func137,by decide+kernel,rfl⟩
instance:aA Tryz.prog 138:=⟨_,Tryz.func138,by decide+kernel,rfl⟩
instance:aA Tryz.prog 139:=⟨_,Tryz.func139,by decide+kernel,rfl⟩
instance:aA Tryz.prog 140:=⟨_,Tryz.func140,by decide+kernel,rfl⟩
instance:aA Tryz.prog 142:=⟨_,Tryz.func142,by decide+kernel,rfl⟩
instance:aA Tryz.prog 143:=⟨_,Tryz.func143,by decide+kernel,rfl⟩
instance:aA Tryz.prog 144:=⟨_,Tryz.func144,by decide+kernel,rfl⟩
instance:aA Tryz.prog 145:=⟨_,Tryz.func145,by decide+kernel,rfl⟩
instance:aA Tryz.prog 146:=⟨_,Tryz.func146,by decide+kernel,rfl⟩
instance:aA Tryz.prog 147:=⟨_,Tryz.func147,by decide+kernel,rfl⟩
instance:aA Tryz.prog 148:=⟨_,Tryz.func148,by decide+kernel,rfl⟩
instance:aA Tryz.prog 149:=⟨_,Tryz.func149,by decide+kernel,rfl⟩
instance:aA Tryz.prog 150:=⟨_,Tryz.func150,by decide+kernel,rfl⟩
instance:aA Tryz.prog 151:=⟨_,Tryz.func151,by decide+kernel,rfl⟩
instance:aA Tryz.prog 152:=⟨_,Tryz.func152,by decide+kernel,rfl⟩
instance:aA Tryz.prog 153:=⟨_,Tryz.func153,by decide+kernel,rfl⟩
instance:aA Tryz.prog 154:=⟨_,Tryz.func154,by decide+kernel,rfl⟩
instance:aA Tryz.prog 155:=⟨_,Tryz.func155,by decide+kernel,rfl⟩
instance:aA Tryz.prog 156:=⟨_,Tryz.func156,by decide+kernel,rfl⟩
instance:aA Tryz.prog 157:=⟨_,Tryz.func157,by decide+kernel,rfl⟩
instance:aA Tryz.prog 168:=⟨_,Tryz.func168,by decide+kernel,rfl⟩
instance:aA Tryz.prog 169:=⟨_,Tryz.func169,by decide+kernel,rfl⟩
instance:aA Tryz.prog 170:=⟨_,Tryz.func170,by decide+kernel,rfl⟩
instance:aA Tryz.prog 171:=⟨_,Tryz.func171,by decide+kernel,rfl⟩
instance:aA Tryz.prog 172:=⟨_,Tryz.func172,by decide+kernel,rfl⟩
instance:aA Tryz.prog 173:=⟨_,Tryz.func173,by decide+kernel,rfl⟩
instance:aA Tryz.prog 174:=⟨_,Tryz.func174,by decide+kernel,rfl⟩
instance:aA Tryz.prog 175:=⟨_,Tryz.func175,by decide+kernel,rfl⟩
instance:aA Tryz.prog 176:=⟨_,Tryz.func176,by decide+kernel,rfl⟩
instance:aA Tryz.prog 177:=⟨_,Tryz.func177,by decide+kernel,rfl⟩
instance:aA Tryz.prog 178:=⟨_,Tryz.func178,by decide+kernel,rfl⟩
instance:aA Tryz.prog 179:=⟨_,Tryz.func179,by decide+kernel,rfl⟩
instance:aA Tryz.prog 180:=⟨_,Tryz.func180,by decide+kernel,rfl⟩
instance:aA Tryz.prog 181:=⟨_,Tryz.func181,by decide+kernel,rfl⟩
instance:aA Tryz.prog 182:=⟨_,Tryz.func182,by decide+kernel,rfl⟩
instance:aA Tryz.prog 183:=⟨_,Tryz.func183,by decide+kernel,rfl⟩
instance:aA Tryz.prog 184:=⟨_,Tryz.func184,by decide+kernel,rfl⟩
instance:aA Tryz.prog 185:=⟨_,Tryz.func185,by decide+kernel,rfl⟩
instance:aA Tryz.prog 186:=⟨_,Tryz.func186,by decide+kernel,rfl⟩
instance:aA Tryz.prog 187:=⟨_,Tryz.func187,by decide+kernel,rfl⟩
instance:aA Tryz.prog 188:=⟨_,Tryz.func188,by decide+kernel,rfl⟩
instance:aA Tryz.prog 189:=⟨_,Tryz.func189,by decide+kernel,rfl⟩
instance:aA Tryz.prog 190:=⟨_,Tryz.func190,by decide+kernel,rfl⟩
instance:aA Tryz.prog 191:=⟨_,Tryz.func191,by decide+kernel,rfl⟩
instance:aA Tryz.prog 192:=⟨_,Tryz.func192,by decide+kernel,rfl⟩
instance:aA Tryz.prog 193:=⟨_,Tryz.func193,by decide+kernel,rfl⟩
instance:aA Tryz.prog 194:=⟨_,Tryz.func194,by decide+kernel,rfl⟩
instance:aA Tryz.prog 195:=⟨_,Tryz.func195,by decide+kernel,rfl⟩
instance:aA Tryz.prog 196:=⟨_,Tryz.func196,by decide+kernel,rfl⟩
instance:aA Tryz.prog 197:=⟨_,Tryz.func197,by decide+kernel,rfl⟩
instance:aA Tryz.prog 198:=⟨_,Tryz.func198,by decide+kernel,rfl⟩
instance:aA Tryz.prog 199:=⟨_,Tryz.func199,by decide+kernel,rfl⟩
instance:aA Tryz.prog 200:=⟨_,Tryz.func200,by decide+kernel,rfl⟩
instance:aA Tryz.prog 201:=⟨_,Tryz.func201,by decide+kernel,rfl⟩
instance:aA Tryz.prog 202:=⟨_,Tryz.func202,by decide+kernel,rfl⟩
instance:aA Tryz.prog 203:=⟨_,Tryz.func203,by decide+kernel,rfl⟩
instance:aA Tryz.prog 204:=⟨_,Tryz.func204,by decide+kernel,rfl⟩
instance:aA Tryz.prog 212:=⟨_,Tryz.func212,by decide+kernel,rfl⟩
instance:aA Tryz.prog 213:=⟨_,Tryz.func213,by decide+kernel,rfl⟩
instance:aA Tryz.prog 214:=⟨_,Tryz.func214,by decide+kernel,rfl⟩
instance:aA Tryz.prog 215:=⟨_,Tryz.func215,by decide+kernel,rfl⟩
instance:aA Tryz.prog 216:=⟨_,Tryz.func216,by decide+kernel,rfl⟩
instance:aA Tryz.prog 217:=⟨_,Tryz.func217,by decide+kernel,rfl⟩
instance:aA Tryz.prog 218:=⟨_,Tryz.func218,by decide+kernel,rfl⟩
instance:aA Tryz.prog 219:=⟨_,Tryz.func219,by decide+kernel,rfl⟩
instance:aA Tryz.prog 220:=⟨_,Tryz.func220,by decide+kernel,rfl⟩
instance:aA Tryz.prog 221:=⟨_,Tryz.func221,by decide+kernel,rfl⟩
instance:aA Tryz.prog 222:=⟨_,Tryz.func222,by decide+kernel,rfl⟩
instance:aA Tryz.prog 223:=⟨_,Tryz.func223,by decide+kernel,rfl⟩
instance:aA Tryz.prog 224:=⟨_,Tryz.func224,by decide+kernel,rfl⟩
instance:aA Tryz.prog 225:=⟨_,Tryz.func225,by decide+kernel,rfl⟩
instance:aA Tryz.prog 226:=⟨_,Tryz.func226,by decide+kernel,rfl⟩
instance:aA Tryz.prog 227:=⟨_,Tryz.func227,by decide+kernel,rfl⟩
instance:aA Tryz.prog 228:=⟨_,Tryz.func228,by decide+kernel,rfl⟩
instance:aA Tryz.prog 230:=⟨_,Tryz.func230,by decide+kernel,rfl⟩
instance:aA Tryz.prog 231:=⟨_,Tryz.func231,by decide+kernel,rfl⟩
instance:aA Tryz.prog 232:=⟨_,Tryz.func232,by decide+kernel,rfl⟩
instance:aA Tryz.prog 233:=⟨_,Tryz.func233,by decide+kernel,rfl⟩
instance:aA Tryz.prog 244:=⟨_,Tryz.func244,by decide+kernel,rfl⟩
instance:aA Tryz.prog 250:=⟨_,Tryz.func250,by decide+kernel,rfl⟩
end
section
open Go.RowKit
variable {P:Program} {n:fT} {w0:World} {E:Env} {D:List Deferred} {H F F2 R:af} {ops:Array Oper} {l':List Oper} {Q:Exit→St→Prop} {w:World}
class wi (H:af) (φ:outParam Prop) (F:outParam af):Prop where
 eq:H=pure' φ*F
instance NA (φ:Prop) (F:af):wi (pure' φ*F) φ F:=⟨rfl⟩
instance (priority:=low) NB (X H F:af) (φ:Prop) [h:wi X φ F]:wi (X*H) φ (F*H):=⟨by rw[h.eq,ad]⟩
theorem lH {φ:Prop} (hp:wi H φ F) (h:φ→LS P n w0 ops Q l' ⟨E,D,F⟩):LS P n w0 ops Q l' ⟨E,D,H⟩:=fun a w g=>by
 obtain⟨h1,h2⟩:=(g.sat.cast hp.eq).pure
 exact h h1 a w ⟨g.dQ,g.defers,h2⟩
theorem Ja {φ:Prop} {c:Code} (hp:wi H φ F) (h:φ→WS P n w0 c Q ⟨E,D,F⟩):WS P n w0 c Q ⟨E,D,H⟩:=fun a w g=>by
 obtain⟨h1,h2⟩:=(g.sat.cast hp.eq).pure
 exact h h1 a w ⟨g.dQ,g.defers,h2⟩
variable {d:Nat} {op:Op} {ty:TypeId} {pos:String} {after:Array Edge} {α:Type} {v:α→Value} {post:α→af}
theorem IP {φ:α→Prop} (h:cn P n w0 ⟨some d,op,ty,pos,after,none⟩ E H v (fun x=>(pure' (φ x)*post x)*F)) (hd:Nat.blt d n.tmps=true) (hn:∀x,φ x→LS P n w0 ops Q l' ⟨(d,v x)::E,D,post x*F⟩):LS P n w0 ops Q (⟨some d,op,ty,pos,after,none⟩::l') ⟨E,D,H⟩:=
 ai h hd fun x=>lH iI (hn x)
section lookup
variable {κ ν:Type} [DecidableEq κ] {fk:κ→Value} {fv:ν→Value} {r:Nat} {m:List (κ×ν)} {k:κ} {u:ν} {v:Value} {d:Option Tmp} {gu:Option (Nat×Bool)} {x y:Operand} {t kt et:TypeId} {z:Value} {zs:List Value}
theorem fD (hx:E.ev x=some (.map (some r))) (hy:E.ev y=some v) (hl:jQ H r κ ν fk fv m F) (u6:hU fk v k) (hm:rp P t kt et) (hz:Zero P et z zs) (hk:ou P kt fk) (he:bX m k=some u):cD P n w0 ⟨d,.lookup t x y true,ty,pos,after,gu⟩ E H (.tuple #[fv u,.bool true]):=by
 have:=wo (n:=n) (w0:=w0) (d:=d) (ty:=ty) (pos:=pos) (after:=after) (gu:=gu) hx hy hl u6 hm hz hk
 rwa[he]at this
theorem iJ (hx:E.ev x=some (.map (some r))) (hy:E.ev y=some v) (hl:jQ H r κ ν fk fv m F) (u6:hU fk v k) (hm:rp P t kt et) (hz:Zero P et z zs) (hk:ou P kt fk) (he:bX m k=none):cD P n w0 ⟨d,.lookup t x y true,ty,pos,after,gu⟩ E H (.tuple #[z,.bool false]):=by
 have:=wo (n:=n) (w0:=w0) (d:=d) (ty:=ty) (pos:=pos) (after:=after) (gu:=gu) hx hy hl u6 hm hz hk
 rwa[he]at this
theorem fw (hx:E.ev x=some (.map (some r))) (hy:E.ev y=some v) (hl:jQ H r κ ν fk fv m F) (u6:hU fk v k) (hm:rp P t kt et) (hz:Zero P et z zs) (hk:ou P kt fk) (he:bX m k=some u):cD P n w0 ⟨d,.lookup t x y false,ty,pos,after,gu⟩ E H (fv u):=by
 have:=wm (n:=n) (w0:=w0) (d:=d) (ty:=ty) (pos:=pos) (after:=after) (gu:=gu) hx hy hl u6 hm hz hk
 rwa[he]at this
theorem iw (hx:E.ev x=some (.map (some r))) (hy:E.ev y=some v) (hl:jQ H r κ ν fk fv m F) (u6:hU fk v k) (hm:rp P t kt et) (hz:Zero P et z zs) (hk:ou P kt fk) (he:bX m k=none):cD P n w0 ⟨d,.lookup t x y false,ty,pos,after,gu⟩ E H z:=by
 have:=wm (n:=n) (w0:=w0) (d:=d) (ty:=ty) (pos:=pos) (after:=after) (gu:=gu) hx hy hl u6 hm hz hk
 rwa[he]at this
end lookup
end
section
open Go.RowKit
variable {P:Program} {n:fT} {w0:World} {E:Env} {D:List Deferred} {H F F2 R:af} {ops:Array Oper} {l':List Oper} {Q:Exit→St→Prop} {w:World}
instance Mb {t e:TypeId} {a:Addr} [h:eN P t (.pointer e)]:dL P .eql t (.pointer (some a)) (.pointer none) (.bool false):=⟨fun w=>by
 have hp:P.pointee t=e:=by simp[Program.pointee,h.eq]
 have:=run_eql_pointer_nil (w:=w) t (some a) (by rw[hp];exact h.eq)
 exact this,fun w _ _=>by rfl⟩
instance MA {t e:TypeId} {a:Addr} [h:eN P t (.pointer e)]:dL P .neq t (.pointer (some a)) (.pointer none) (.bool true):=⟨fun w=>by
 have hp:P.pointee t=e:=by simp[Program.pointee,h.eq]
 have:=run_neq_pointer_nil (w:=w) t (some a) (by rw[hp];exact h.eq)
 exact this,fun w _ _=>by rfl⟩
theorem wx {o:Operand} {b:Bool} {x y:Code} {σ:St} (hc:σ.E.ev o=some (.bool b)) (hl:b=true) (h:WS P n w0 x Q σ):WS P n w0 (.cond o x y) Q σ:=pr hc (fun _=>h) (fun e=>by rw[hl]at e;cases e)
theorem wu {o:Operand} {b:Bool} {x y:Code} {σ:St} (hc:σ.E.ev o=some (.bool b)) (hl:b=false) (h:WS P n w0 y Q σ):WS P n w0 (.cond o x y) Q σ:=pr hc (fun e=>by rw[hl]at e;cases e) (fun _=>h)
end
section
section
variable {κ ν:Type} [DecidableEq κ]
def KN (m:List (κ×ν)):Prop:=(m.map (·.1)).Nodup
theorem KN.nil:KN ([]:List (κ×ν)):=List.nodup_nil
theorem gv (k:κ) (v:ν) (m:List (κ×ν)) (k':κ):bX ((k,v)::m) k'=if k=k' then some v else bX m k':=by
 unfold bX
 simp only[dT]
 by_cases h:k=k'
 ·simp[h]
 ·simp only[h,if_false]
  cases dT m k' with
  |none=>rfl
  |some i=>simp
theorem sl (k:κ):bX ([]:List (κ×ν)) k=none:=rfl
theorem ni (k:κ) (v:ν) (m:List (κ×ν)) (k':κ) (v':ν):bY ((k,v)::m) k' v'=if k=k' then(k',v')::m else(k,v)::bY m k' v':=by
 unfold bY
 simp only[dT]
 by_cases h:k=k'
 ·simp[h]
 ·simp only[h,if_false]
  cases dT m k' with
  |none=>rfl
  |some i=>simp
theorem xH (k:κ) (v:ν):bY ([]:List (κ×ν)) k v=[(k,v)]:=rfl
theorem zB (k:κ) (v:ν) (m:List (κ×ν)) (k':κ):gq ((k,v)::m) k'=if k=k' then m else(k,v)::gq m k':=by
 unfold gq
 simp only[dT]
 by_cases h:k=k'
 ·simp[h]
 ·simp only[h,if_false]
  cases dT m k' with
  |none=>rfl
  |some i=>simp
theorem CF (k:κ):gq ([]:List (κ×ν)) k=[]:=rfl
theorem fo (m:List (κ×ν)) (k:κ) (v:ν) (k':κ):bX (bY m k v) k'=if k=k' then some v else bX m k':=by
 induction m with
 |nil=>rw[xH,gv,sl]
 |cons p m ih=>
  obtain⟨a,b⟩:=p
  rw[ni]
  split
  ·rename_i h;subst h;rw[gv,gv];split<;>rfl
  ·rename_i h
   rw[gv,gv,ih]
   split
   ·rename_i h2;subst h2;rw[if_neg (Ne.symm h)]
   ·rfl
theorem mG (m:List (κ×ν)) (k:κ):bX m k=none↔k∉m.map (·.1):=by
 induction m with
 |nil=>simp[sl]
 |cons p m ih=>
  obtain⟨a,b⟩:=p
  rw[gv]
  split
  ·rename_i h;subst h;simp
  ·rename_i h;rw[ih];simp[Ne.symm h]
theorem CH {m:List (κ×ν)} {k:κ} {v:ν} (h:bX m k=some v):(k,v)∈m:=by
 induction m with
 |nil=>cases h
 |cons p m ih=>
  obtain⟨a,b⟩:=p
  rw[gv]at h
  split at h
  ·rename_i e;subst e;cases h;simp
  ·exact List.mem_cons_of_mem _ (ih h)
theorem CI {m:List (κ×ν)} (hn:KN m) {k:κ} {v:ν} (h:(k,v)∈m):bX m k=some v:=by
 induction m with
 |nil=>cases h
 |cons p m ih=>
  obtain⟨a,b⟩:=p
  have AL:a∉m.map (·.1)∧(m.map (·.1)).Nodup:=by simpa [KN]using hn
  rw[gv]
  rcases List.mem_cons.1 h with h|h
  ·cases h;simp
  ·rw[if_neg,ih AL.2 h]
   rintro rfl
   exact AL.1 (List.mem_map.2 ⟨_,h,rfl⟩)
theorem zG (m:List (κ×ν)) (k:κ) (v:ν):(bY m k v).map (·.1)=if k∈m.map (·.1)then m.map (·.1)else m.map (·.1)++[k]:=by
 induction m with
 |nil=>simp[xH]
 |cons p m ih=>
  obtain⟨a,b⟩:=p
  rw[ni]
  split
  ·rename_i h;subst h;simp
  ·rename_i h
   simp only[List.map_cons,ih,List.mem_cons,Ne.symm h,false_or]
   split<;>simp
theorem KN.bY {m:List (κ×ν)} (h:KN m) (k:κ) (v:ν):KN (bY m k v):=by
 unfold KN at*
 rw[zG]
 split
 ·exact h
 ·rename_i hk
  refine List.nodup_append.2 ⟨h,by simp,?_⟩
  intro a ha b hb
  simp at hb;subst hb
  rintro rfl;exact hk ha
theorem sg (m:List (κ×ν)) (k:κ):(gq m k).Sublist m:=by
 induction m with
 |nil=>simp[CF]
 |cons p m ih=>
  obtain⟨a,b⟩:=p
  rw[zB]
  split
  ·exact List.sublist_cons_self _ _
  ·exact ih.cons_cons _
theorem KN.gq {m:List (κ×ν)} (h:KN m) (k:κ):KN (gq m k):=h.sublist ((sg m k).map _)
theorem nh {m:List (κ×ν)} (h:KN m) (k:κ) (k':κ):bX (gq m k) k'=if k=k' then none else bX m k':=by
 induction m with
 |nil=>simp[CF,sl]
 |cons p m ih=>
  obtain⟨a,b⟩:=p
  have AL:a∉m.map (·.1)∧(m.map (·.1)).Nodup:=by simpa [KN]using h
  rw[zB]
  split
  ·rename_i e;subst e
   rw[gv]
   split
   ·rename_i e;subst e;exact(mG _ _).2 AL.1
   ·rfl
  ·rename_i e
   rw[gv,gv,ih AL.2]
   split
   ·rename_i e2;subst e2;rw[if_neg (Ne.symm e)]
   ·rfl
theorem CK (m:List (κ×ν)) (k:κ) (v:ν):(bY m k v).length=if k∈m.map (·.1)then m.length else m.length+1:=by
 have:=congrArg List.length (zG m k v)
 simp only[List.length_map]at this
 rw[this]
 split<;>simp
end
end
section
def Rec.norm (r:Rec):Rec:={r with addr:=if r.own then 0 else r.addr}
def C7 (l:List Rec):List UInt8:=l.flatMap Rec.bytes
theorem vn (l:List Rec):(C7 l).length=13*l.length:=by
 induction l with
 |nil=>rfl
 |cons r l ih=>simp[C7,Rec.dz]at ih ⊢;omega
end
end Go.Proofs.YtapoehkdnglahabGreat

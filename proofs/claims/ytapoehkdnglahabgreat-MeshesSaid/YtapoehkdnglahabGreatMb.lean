/- A part. -/
import Derived.Test.YtapoehkdnglahabGreatMa
set_option linter.all false
namespace Go.Proofs.YtapoehkdnglahabGreat
section
def u8 (b:UInt8):Value:= .int .u8 (b.toNat:Int)
def K8 (l:List UInt8):List Value:=l.map u8
def u32 (k:UInt32):Value:= .int .u32 (k.toNat:Int)
def u64 (k:UInt64):Value:= .int .u64 (k.toNat:Int)
theorem qU (a:List UInt8):(K8 a).length=a.length:=by simp[K8]
def be (k:UInt32):List UInt8:=[UInt8.ofNat (k.toNat / 16777216),UInt8.ofNat (k.toNat / 65536 % 256),UInt8.ofNat (k.toNat / 256 % 256),UInt8.ofNat (k.toNat % 256)]
theorem al (k):(be k).length=4:=rfl
def num (a b c d:UInt8):UInt32:=UInt32.ofNat (a.toNat*16777216+b.toNat*65536+c.toNat*256+d.toNat)
theorem tY (a b c d:UInt8):(num a b c d).toNat=a.toNat*16777216+b.toNat*65536+c.toNat*256+d.toNat:=by
 have h1:=a.toNat_lt;have h2:=b.toNat_lt;have h3:=c.toNat_lt;have h4:=d.toNat_lt;simp only[num,ubk];omega
theorem Pv (k:UInt32):num (UInt8.ofNat (k.toNat / 16777216)) (UInt8.ofNat (k.toNat / 65536 % 256)) (UInt8.ofNat (k.toNat / 256 % 256)) (UInt8.ofNat (k.toNat % 256))=k:=by
 have hk:=k.toNat_lt;apply HL.1;rw[tY];simp only[uaB];omega
theorem Ob (a b c d):be (num a b c d)=[a,b,c,d]:=by
 have h1:=a.toNat_lt;have h2:=b.toNat_lt;have h3:=c.toNat_lt;have h4:=d.toNat_lt;simp only[be,tY];congr 1
 ·apply ZW.1;simp only[uaB];omega
 congr 1
 ·apply ZW.1;simp only[uaB];omega
 congr 1
 ·apply ZW.1;simp only[uaB];omega
 congr 1
 ·apply ZW.1;simp only[uaB];omega
def Ea (c:UInt32):UInt32:=if c.toNat % 2=1 then UInt32.ofNat (c.toNat / 2) ^^^ 3988292384 else UInt32.ofNat (c.toNat / 2)
def lK:Nat->UInt32->UInt32
 |0,c=>c
 |n+1,c=>Ea (lK n c)
def qu (c:UInt32) (l:List UInt8):UInt32:=l.foldl (λc b=>lK 8 (c ^^^ UInt32.ofNat b.toNat)) c
def sumOf (l:List UInt8):UInt32:=4294967295 ^^^ qu 4294967295 l
theorem Ei (c:UInt32):(UInt32.ofNat (c.toNat / 2)).toNat=c.toNat / 2:=by
 have:=c.toNat_lt;rw[ubk];omega
theorem DX (b:UInt8):(UInt32.ofNat b.toNat).toNat=b.toNat:=by
 have:=b.toNat_lt;rw[ubk];omega
theorem yf (c l) (b:UInt8):qu c (l++[b])=lK 8 (qu c l ^^^ UInt32.ofNat b.toNat):=by simp[qu]
structure Rec where
 own:Bool
 addr:UInt32
 seq:UInt32
def Rec.cells (r:Rec):List Value:=[.bool r.own,u32 r.addr,u32 r.seq]
def Rec.head (r:Rec):List UInt8:=(if r.own then 1 else 2)::(be (if r.own then 0 else r.addr)++be r.seq)
def Rec.bytes (r:Rec):List UInt8:=r.head++be (sumOf r.head)
theorem Rec.dz (r:Rec):r.bytes.length=13:=rfl
def aI (l:List Rec):List Value:=l.flatMap Rec.cells
def dW (y:List UInt8) (i:Nat):UInt8:=y[i]?.getD 0
def bm (y:List UInt8) (i:Nat):UInt32:=num (dW y i) (dW y (i+1)) (dW y (i+2)) (dW y (i+3))
def gy (l:List UInt8):Rec:=⟨((dW l 0).toNat:Int)==1,bm l 1,bm l 5⟩
def jL:Nat->List UInt8->List Rec
 |0,_=>[]
 |n+1,l=>if 13<=l.length/\(gy l).bytes=l.take 13 then gy l::jL n (l.drop 13)else []
def ic (l:List UInt8):List Rec:=jL (l.length / 13) l
theorem C6 (n) (l:List UInt8) (h:l.length<13):jL n l=[]:=by
 cases n with
 |zero=>rfl
 |succ n=>rw[jL,eQ (by omega)]
theorem H2 (n) (l:List UInt8) (h:¬(gy l).bytes=l.take 13):jL n l=[]:=by
 cases n with
 |zero=>rfl
 |succ n=>rw[jL,eQ (λhh=>h hh.2)]
theorem H3 (n) (l:List UInt8) (h0:13<=l.length) (hn:0<n) (h:(gy l).bytes=l.take 13):jL n l=gy l::jL (n - 1) (l.drop 13):=by
 cases n with
 |zero=>omega
 |succ n=>rw[jL,jF ⟨h0,h⟩];rfl
theorem E3 (xs:List UInt8) (js k) (y:List UInt8) (hj:ic xs=js++jL (xs.length / 13 - k) (xs.drop (13*k))) (hy:y=xs.drop (13*k)) (bW:13<=xs.length - 13*k) (hx:(gy y).bytes=y.take 13):
 ic xs=(js++[gy y])++jL (xs.length / 13 - (k+1)) (xs.drop (13*(k+1))):=by
 have Ns:y.length=xs.length - 13*k:=by rw[hy];simp
 rw[hj,<-hy,H3 (xs.length / 13 - k) y (by omega) (by omega) hx,EK]
 have e:y.drop 13=xs.drop (13*(k+1)):=by rw[hy,uax];congr 1
 rw[e];rfl
theorem Bc (n l):(jL n l).length<=n:=by
 induction n generalizing l with
 |zero=>simp[jL]
 |succ n ih=>
  rw[jL];split
  ·have:=ih (l.drop 13);simp;omega
  ·simp
theorem sD (l:List UInt8):13*(ic l).length<=l.length:=by
 have:=Bc (l.length / 13) l;simp only[ic];omega
end
section
open Go.RowKit
variable {P:Program} {n:fT} {w0:World} {E:Env} {D:List Deferred} {H F R:af} {ops:Array Oper} {l:List Oper} {Q:Exit->St->Prop} {o:Oper}
def cn (P:Program) (n:fT) (w0:World) (o:Oper) (E:Env) (H:af) {α:Type} (v:α->Value) (post:α->af):Prop:=
 ∃(pre:af) (zK:α->af) (F:af),y6 P n w0 o E pre v zK/\H=pre*F/\∀x,post x=zK x*F
theorem cn.mk' {α:Type} {pre:af} {v:α->Value} {post:α->af} (h:y6 P n w0 o E pre v post) (hH:H=pre*F):cn P n w0 o E H v (λx=>post x*F):=⟨pre,post,F,h,hH,λ_=>rfl⟩
section front
variable {d:Nat} {op:Op} {ty:TypeId} {pos:String} {after:Array Edge} {L:af} {B:Nat->Bool} {k cp:Nat} {c:Bool} {α:Type} {v:α->Value} {post:α->af} {gu:Option (Nat×Bool)} {u:Value}
theorem M3 (h:cn P n w0 o E H v post) (hd:gC n o.dst=true) (hg:o.guard=none)
 (hn:∀x,LS P n w0 ops Q l ⟨E.zaI o.dst (v x),D,post x⟩):LS P n w0 ops Q (o::l) ⟨E,D,H⟩:=by
 obtain⟨pre,zK,F,iZ,hH,hp⟩:=h
 exact To iZ hH hd hg λx=>by rw[<-hp];exact hn x
theorem ai (h:cn P n w0 ⟨some d,op,ty,pos,after,none⟩ E H v post) (hd:Nat.blt d n.tmps=true) (hn:∀x,LS P n w0 ops Q l ⟨(d,v x)::E,D,post x⟩):LS P n w0 ops Q (⟨some d,op,ty,pos,after,none⟩::l) ⟨E,D,H⟩:=M3 h hd rfl hn
theorem bL (h:cn P n w0 ⟨none,op,ty,pos,after,none⟩ E H v post) (hn:∀x,LS P n w0 ops Q l ⟨E,D,post x⟩):LS P n w0 ops Q (⟨none,op,ty,pos,after,none⟩::l) ⟨E,D,H⟩:=M3 h rfl rfl hn
theorem IH (h:cn P n w0 o E F v post) (he:mD o.op=true) (ha:fG o.op=false) (hd:gC n o.dst=true) (hg:∃b,fO ops E o=some (b,b))
 (hn:∀x,DL P n w0 ops Q D R L B cp (k+1) c l (E.zaI o.dst (v x)) (post x)):DL P n w0 ops Q D R L B cp k c (o::l) E F:=by
 obtain⟨pre,zK,F,iZ,hH,hp⟩:=h
 exact .t he ha hd hg iZ hH λx=>by rw[<-hp];exact hn x
theorem aD (h:cn P n w0 ⟨some d,op,ty,pos,after,none⟩ E F v post) (he:mD op=true) (ha:fG op=false) (hd:Nat.blt d n.tmps=true)
 (hn:∀x,DL P n w0 ops Q D R L B cp (k+1) c l ((d,v x)::E) (post x)):DL P n w0 ops Q D R L B cp k c (⟨some d,op,ty,pos,after,none⟩::l) E F:=IH h he ha hd ⟨true,rfl⟩ hn
theorem dP (h:cn P n w0 ⟨none,op,ty,pos,after,none⟩ E F v post) (he:mD op=true) (ha:fG op=false)
 (hn:∀x,DL P n w0 ops Q D R L B cp (k+1) c l E (post x)):DL P n w0 ops Q D R L B cp k c (⟨none,op,ty,pos,after,none⟩::l) E F:=IH h he ha rfl ⟨true,rfl⟩ hn
theorem bk (he:mD op=false) (hd:Nat.blt d n.tmps=true) (iZ:∀F',OpQ P n w0 ⟨some d,op,ty,pos,after,none⟩ E (R*F') u) (h:DL P n w0 ops Q D R L B cp (k+1) c l ((d,u)::E) F):DL P n w0 ops Q D R L B cp k c (⟨some d,op,ty,pos,after,none⟩::l) E F:= .q he hd ⟨true,rfl⟩ iZ h
theorem bP (he:mD op=false) (hd:Nat.blt d n.tmps=true) (hB:B k=true) (iZ:∀F',OpQ P n w0 ⟨some d,op,ty,pos,after,none⟩ E (R*(L*F')) u) (h:DL P n w0 ops Q D R L B cp (k+1) false l ((d,u)::E) F):DL P n w0 ops Q D R L B cp k false (⟨some d,op,ty,pos,after,none⟩::l) E F:= .qp he hd hB ⟨true,rfl⟩ iZ h
theorem zab {j b} (hg:fO ops E ⟨some d,op,ty,pos,after,some (j,b)⟩=some (b,b)) (he:mD op=false) (hd:Nat.blt d n.tmps=true) (iZ:∀F',OpQ P n w0 ⟨some d,op,ty,pos,after,some (j,b)⟩ E (R*F') u) (h:DL P n w0 ops Q D R L B cp (k+1) c l ((d,u)::E) F):DL P n w0 ops Q D R L B cp k c (⟨some d,op,ty,pos,after,some (j,b)⟩::l) E F:= .q he hd ⟨b,hg⟩ iZ h
theorem II {j b} (hg:fO ops E ⟨some d,op,ty,pos,after,some (j,b)⟩=some (b,b)) (he:mD op=false) (hd:Nat.blt d n.tmps=true) (hB:B k=true) (iZ:∀F',OpQ P n w0 ⟨some d,op,ty,pos,after,some (j,b)⟩ E (R*(L*F')) u) (h:DL P n w0 ops Q D R L B cp (k+1) false l ((d,u)::E) F):DL P n w0 ops Q D R L B cp k false (⟨some d,op,ty,pos,after,some (j,b)⟩::l) E F:= .qp he hd hB ⟨b,hg⟩ iZ h
theorem MY {j b} (hg:fO ops E ⟨some d,op,ty,pos,after,some (j,b)⟩=some (b,b)) (h:cn P n w0 ⟨some d,op,ty,pos,after,some (j,b)⟩ E F v post) (he:mD op=true) (ha:fG op=false) (hd:Nat.blt d n.tmps=true) (hn:∀x,DL P n w0 ops Q D R L B cp (k+1) c l ((d,v x)::E) (post x)):DL P n w0 ops Q D R L B cp k c (⟨some d,op,ty,pos,after,some (j,b)⟩::l) E F:=IH h he ha hd ⟨b,hg⟩ hn
theorem LJ {j b b'} (hg:fO ops E ⟨some d,op,ty,pos,after,some (j,b)⟩=some (b',b)) (hb:b'= !b) (ha:fG op=false) (hd:Nat.blt d n.tmps=true) (h:DL P n w0 ops Q D R L B cp (k+1) c l ((d,undef)::E) F):DL P n w0 ops Q D R L B cp k c (⟨some d,op,ty,pos,after,some (j,b)⟩::l) E F:=
 .skip (b:= !b) ha hd (by rw[hg,hb];simp) h
theorem aL {t z zs} (hz:Zero P t z zs) (hd:Nat.blt d n.tmps=true) (hn:∀g,DL P n w0 ops Q D R L B cp (k+1) c l ((d,ptr g 0)::E) (aK g t zs*F)):DL P n w0 ops Q D R L B cp k c (⟨some d,.alloc t,ty,pos,after,none⟩::l) E F:= .a hd hz hn
theorem dn {Q:Exit->St->Prop} {ops:Array Oper} {l:List Oper} {d:Nat} {ty:TypeId} {pos:String} {after:Array Edge} {op:BinOp} {t t2:TypeId} {x y:Operand} {v u:Value} {q:Prop} {inst:Decidable q} (hx:E.ev x=some v) (hy:E.ev y=some u) (h:dL P op t v u (.bool (decide q))) (hd:Nat.blt d n.tmps=true)
 (h1:q->LS P n w0 ops Q l ⟨(d,.bool true)::E,D,H⟩) (h2:¬q->LS P n w0 ops Q l ⟨(d,.bool false)::E,D,H⟩):LS P n w0 ops Q (⟨some d,.binOp op t x y t2,ty,pos,after,none⟩::l) ⟨E,D,H⟩:=by
 by_cases hq:q
 ·exact lI (bp hx hy h hq) hd (h1 hq)
 ·exact lI (bH hx hy h hq) hd (h2 hq)
theorem dm {Q:Exit->St->Prop} {ops:Array Oper} {l:List Oper} {d:Nat} {ty:TypeId} {pos:String} {after:Array Edge} {op:BinOp} {t t2:TypeId} {x y:Operand} {v u:Value} {q:Prop} {inst:Decidable q} (hx:E.ev x=some v) (hy:E.ev y=some u) (h:dL P op t v u (.bool (!decide q))) (hd:Nat.blt d n.tmps=true)
 (h1:q->LS P n w0 ops Q l ⟨(d,.bool false)::E,D,H⟩) (h2:¬q->LS P n w0 ops Q l ⟨(d,.bool true)::E,D,H⟩):LS P n w0 ops Q (⟨some d,.binOp op t x y t2,ty,pos,after,none⟩::l) ⟨E,D,H⟩:=by
 by_cases hq:q
 ·exact lI (du hx hy h hq) hd (h1 hq)
 ·exact lI (fC hx hy h hq) hd (h2 hq)
theorem dU {Q ops R L B cp k c l d ty pos after op t t2 x y v u b} (hx:E.ev x=some v) (hy:E.ev y=some u) (h:dL P op t v u (.bool b)) (hd:Nat.blt d n.tmps=true) (h1:b=true->DL P n w0 ops Q D R L B cp (k+1) c l ((d,.bool true)::E) F) (h2:b=false->DL P n w0 ops Q D R L B cp (k+1) c l ((d,.bool false)::E) F):DL P n w0 ops Q D R L B cp k c (⟨some d,.binOp op t x y t2,ty,pos,after,none⟩::l) E F:=by
 cases b
 ·exact .q rfl hd ⟨true,rfl⟩ (λF'=>bE hx hy h) (h2 rfl)
 ·exact .q rfl hd ⟨true,rfl⟩ (λF'=>bE hx hy h) (h1 rfl)
theorem M0 (he:mD op=true) (ha:fG op=false) (hd:Nat.blt d n.tmps=true) (iZ:∀F',cv P n w0 ⟨some d,op,ty,pos,after,none⟩ E (hp c R L F') u) (h:DL P n w0 ops Q D R L B cp (k+1) c l ((d,u)::E) F):DL P n w0 ops Q D R L B cp k c (⟨some d,op,ty,pos,after,none⟩::l) E F:= .tq he ha hd ⟨true,rfl⟩ iZ h
end front
section ops
variable {d:Option Tmp} {ty:TypeId} {pos:String} {after:Array Edge} {gu:Option (Nat×Bool)} {x y:Operand} {v u:Value}
theorem Qu {f t} {cs:List Value} (h:∀a w,fV n E a->(execOp a.eval o).run P w= .ok (.value (f w.heap.size)) (w.alloc (.cells cs.toArray t))):y6 P n w0 o E emp f (λg=>aK g t cs):=λG a w K Q s hs hK=>by
 unfold Oper.wp;rw[h a w s];rw[aB]at hs;exact hK _ _ (hs.new t cs.toArray)
theorem Fy {f t} {cs:List Value} (h:∀a w,fV n E a->(execOp a.eval o).run P w= .ok (.value (f w.heap.size)) (w.alloc (.cells cs.toArray t))):cn P n w0 o E H f (λg=>aK g t cs*H):=cn.mk' (Qu h) aB.symm
theorem ph {t z zs} (hz:Zero P t z zs):cn P n w0 ⟨d,.alloc t,ty,pos,after,gu⟩ E H (λg=>ptr g 0) (λg=>aK g t zs*H):=Fy λa w s=>nK a.eval w hz
theorem rj {t} {vs:List Value} (hx:E.ev x=some (.agg vs.toArray)):cn P n w0 ⟨d,.box t x,ty,pos,after,gu⟩ E H (λg=>ptr g 0) (λg=>aK g t vs*H):=Fy λa w s=>by
 simp[execOp,s.ev hx,Instr.box,newVar,newRow,Value.cells]
def j4 (zs:List Value):Nat->List Value
 |0=>[]
 |k+1=>zs++j4 zs k
def Md (size:Nat):List Value->List (Nat×List Value)->Option (List Value)
 |cs,[]=>some cs
 |cs,(i,vs)::r=>match iW cs (i*size) vs with
  |some nv=>Md size nv r
  |none=>none
def Env.parts (E:Env):List (Nat×Operand)->Option (List (Nat×List Value))
 |[]=>some []
 |(i,x)::r=>match E.ev x,Env.parts E r with
  |some v,some vs=>some ((i,jn v)::vs)
  |_,_=>none
def Env.kh (E:Env):List (Nat×Operand)->Option (List (Nat×Value))
 |[]=>some []
 |(i,x)::r=>match E.ev x,Env.kh E r with
  |some v,some vs=>some ((i,v)::vs)
  |_,_=>none
theorem fV.kh {a:Act} (h:fV n E a):∀{xs:List (Nat×Operand)} {vs:List (Nat×Value)},E.kh xs=some vs->xs.map (λp=>(p.1,a.eval p.2))=vs
 |[],vs,e=>by cases e;rfl
 |(i,x)::r,vs,e=>by
  simp only[Env.kh]at e;split at e
  ·rename_i v us e1 e2;cases e;simp[h.ev e1,fV.kh h e2]
  ·cases e
def Gi (P:Program) (t:TypeId):Option (List (Nat×Nat)):=
 match P.underlying t with
 |some (.struct fs)=>fs.toList.mapM (λf=>(P.info? f.type).map λi=>(f.offset,i.size))
 |_=>none
class ee (P:Program) (t:TypeId) (ps:outParam (List (Nat×Nat))):Prop where
 eq:Gi P t=some ps
theorem ee.ex {P:Program} {t ps} (h:ee P t ps):∃fs,P.underlying t=some (.struct fs)/\fs.toList.mapM (λf=>(P.info? f.type).map λi=>(f.offset,i.size))=some ps:=by
 have:=h.eq;unfold Gi at this;split at this
 ·rename_i fs hu;exact⟨fs,hu,this⟩
 ·cases this
def JM:List (Nat×Nat)->Nat->Option (Nat×Nat)
 |[],_=>none
 |p::_,0=>some p
 |_::r,i+1=>JM r i
def Ao (ps:List (Nat×Nat)):List Value->List (Nat×Value)->Option (List Value)
 |cs,[]=>some cs
 |cs,(i,v)::r=>match JM ps i with
  |some (off,size)=>bif Nat.beq (jn v).length size then match iW cs off (jn v)with
   |some nv=>Ao ps nv r
   |none=>none
   else none
  |none=>none
theorem FR:∀(ps:List (Nat×Nat)) (i:Nat),JM ps i=ps[i]?
 |[],i=>by simp[JM]
 |v::r,0=>rfl
 |v::r,i+1=>by simp[JM,FR r i]
theorem foldl_set (vs:List Value):∀(k off:Nat) (cs:Array Value),off+k+vs.length<=cs.size->
 ((vs.zipIdx k).foldl (λcs (c,j)=>cs.setIfInBounds (off+j) c) cs).toList=cs.toList.take (off+k)++vs++cs.toList.drop (off+k+vs.length):=by
 induction vs with
 |nil=>intro k off cs h;simp
 |cons v vs ih=>
  intro k off cs h
  simp only[List.zipIdx_cons,Uq]
  rw[ih (k+1) off _ (by simp at h ⊢;omega)]
  simp only[Pr]at h
  rw[ubW,List.take_set,List.drop_set,jF (by omega)]
  have e1:(cs.toList.take (off+(k+1))).set (off+k) v=cs.toList.take (off+k)++[v]:=by
   rw[ubq,jF (by simp;omega)];simp[ubd,ub4,show min (off+k) (off+(k+1))=off+k by omega];omega
  rw[e1]
  simp[show off+(k+1)+vs.length=off+k+(vs.length+1) by omega]
theorem fill_eq (ps:List (Nat×Nat)):∀(parts:List (Nat×Value)) (cs r:List Value),Ao ps cs parts=some r->Instr.fill (ps.toArray[·]?) cs.toArray parts=some r.toArray
 |[],cs,r,h=>by cases h;rfl
 |(i,v)::parts,cs,r,h=>by
  simp only[Ao,FR]at h;cases hp:ps[i]? with
  |none=>rw[hp]at h;cases h
  |some p=>
   obtain⟨off,size⟩:=p;rw[hp]at h;simp only at h;cases hs:Nat.beq (jn v).length size with
   |false=>rw[hs]at h;cases h
   |true=>
    rw[hs]at h;simp only[Zo]at h;cases hq:iW cs off (jn v)with
    |none=>rw[hq]at h;cases h
    |some nv=>
     rw[hq]at h;simp only at h;obtain⟨hle,zm⟩:=np hq;have rZ:v.cells.size=size:=by rw[gX];simpa using uaz hs
     have JU:((v.cells.zipIdx).foldl (λcs (c,j)=>cs.setIfInBounds (off+j) c) cs.toArray)=nv.toArray:=by
      apply ubw;have:=foldl_set (jn v) 0 off cs.toArray (by simpa using hle);rw[<-Array.foldl_toList];simp only[gX];simpa [zm]using this
     have qZ:ps.toArray[i]? =some (off,size):=by simp[hp]
     unfold Instr.fill;rw[qZ];simp only;rw[eQ (by
      rw[gX]at rZ ⊢
      simp only[ZX]at rZ ⊢
      simp[rZ];omega),JU]
     exact fill_eq ps parts nv r h
theorem LP {t:TypeId} {parts:List (Nat×Operand)} {vs:List (Nat×Value)} {ps:List (Nat×Nat)} {z:Value} {zs cs:List Value} (hz:Zero P t z zs) (hp:ee P t ps) (hv:E.kh parts=some vs) (hb:Ao ps zs vs=some cs):
 OpQ P n w0 ⟨d,.build t parts.toArray,ty,pos,after,gu⟩ E H (.agg cs.toArray):=λa w s hs=>by
 obtain⟨fs,hu,Mo⟩:=hp.ex
 obtain⟨it,Ue,OG⟩:=AU.1 hz.eq
 have e1:=s.kh hv
 have e2:(parts.toArray.map fun(i,x)=>(i,a.eval x)).toList=vs:=by simpa using e1
 have h:=run_build (P:=P) w t (parts.toArray.map fun(i,x)=>(i,a.eval x)) cs.toArray (by
  rw[e2]
  simp only[Program.built,Ue,hu,OG,Mo]
  rw[gX,hz.cells]
  exact fill_eq ps vs zs cs hb)
 simp only[execOp,Sem.run_bind,h,Result.andThen_ok,Sem.run_pure]
theorem iP (w) {g off bt t} {cs nv vs:List Value} {val:Value} (hs:Sat w0 w (aK g bt cs*F)) (rZ:(P.info? t).map (·.size)=some vs.length) (hv:val.cells=vs.toArray) (h1:∀u∈vs,u.oneCell'=true) (hp:iW cs off vs=some nv):
 ∃w',(storeVar t ⟨g,off,none⟩ val).run P w= .ok () w'/\Sat w0 w' (aK g bt nv*F):=by
 obtain⟨hle,zm⟩:=np hp
 obtain⟨i,hi,uZ⟩:=AU.1 rZ
 have hz:(sizeOf t).run P w= .ok vs.length w:=by simp[sizeOf,typeInfo,hi,uZ]
 have hr:=ig (P:=P) g off bt (0,0) vs 0 cs.toArray w (Sat.at_ hs) (by simpa using hle) h1 (λi _ _=>by simp)
 refine⟨w.setRow g (cs.toArray.toList.take (off+0)++vs++cs.toArray.toList.drop (off+0+vs.length)).toArray,?_,?_⟩
 ·simp only[storeVar,Sem.run_bind,hz,Result.andThen_ok,hv,ZX]
  rw[eQ (by simp)]
  exact hr
 ·refine Sat.put (o:= .cells cs.toArray bt (0,0)) hs rfl rfl rfl ?_ λk _ hk=>setRow_other w g k _ hk
  have:=setRow_heap w g cs.toArray (cs.toArray.toList.take (off+0)++vs++cs.toArray.toList.drop (off+0+vs.length)).toArray bt (0,0) (Sat.at_ hs)
  rw[this,zm]
  simp
theorem cells_one {v:Value} (h:v.oneCell'=true):v.cells=[v].toArray:=by cases v<;>first|rfl|cases h
theorem kV {t bt:TypeId} {g off:Nat} {cs nv:List Value} (hx:E.ev x=some (ptr g off)) (hy:E.ev y=some v) (ht:fi P t) (h1:v.oneCell'=true) (hl:v7 H g bt cs F) (tM:iW cs off [v]=some nv):
 cn P n w0 ⟨none,.store t x y,ty,pos,after,gu⟩ E H (λ_:Unit=>undef) (λ_=>aK g bt nv*F):=cn.mk' (pre:=aK g bt cs) (post:=λ_=>aK g bt nv) (λG a w K Q s hs hK=>by
 obtain⟨w',hr,eI⟩:=iP (P:=P) (t:=t) (vs:=[v]) w hs ht.size (cells_one h1) (by simpa using h1) tM
 have:=hK () w' eI
 simp only[Act.put]at this
 simp only[Oper.wp,execOp,s.ev hx,s.ev hy,Instr.storeAt,Instr.sureAddr,Sem.run_bind,Sem.run_pure,Result.andThen_ok,hr,Oper.upon_skip]
 exact this) hl.eq
theorem bo {t bt:TypeId} {g off:Nat} {cs nv vs:List Value} (hx:E.ev x=some (ptr g off)) (hy:E.ev y=some (.agg vs.toArray)) (ht:mN P t vs.length) (hl:v7 H g bt cs F) (h1:vs.all (·.oneCell')=true) (tM:iW cs off vs=some nv):
 cn P n w0 ⟨none,.store t x y,ty,pos,after,gu⟩ E H (λ_:Unit=>undef) (λ_=>aK g bt nv*F):=cn.mk' (pre:=aK g bt cs) (post:=λ_=>aK g bt nv) (λG a w K Q s hs hK=>by
 obtain⟨w',hr,eI⟩:=iP (P:=P) (t:=t) (vs:=vs) (val:= .agg vs.toArray) w hs ht.size rfl (by simpa using h1) tM
 have:=hK () w' eI
 simp only[Act.put]at this
 simp only[Oper.wp,execOp,s.ev hx,s.ev hy,Instr.storeAt,Instr.sureAddr,Sem.run_bind,Sem.run_pure,Result.andThen_ok,hr,Oper.upon_skip]
 exact this) hl.eq
end ops
def Spec (P:Program) (w0:World) (f:FuncId) (args:List Value) (pre:af) {α:Type} (res:α->Value) (post:α->af):Prop:=
 ∀(G:af) w,Sat w0 w (pre*G)->Calls P f args.toArray w λe w'=>∃x,e= .returned (res x)/\Sat w0 w' (post x*G)
class aA (P:Program) (f:FuncId):Prop where
 ok:∃fn,P.funcs[f]? =some fn/\fn.name≠ "runtime.NumGoroutine" /\fn.body.isNone=false
theorem fI {f} (hf:aA P f) (args w):(callFunc f args).run P w= .ok (.enter f args) w:=by
 obtain⟨fn,h1,h2,h3⟩:=hf.ok;cases hb:fn.body with
 |none=>rw[hb]at h3;cases h3
 |some c=>simp[callFunc,h1,h2,hb]
section call
variable {α:Type} {f:FuncId} {args:List Value} {pre:af} {res:α->Value} {post:α->af} {d:Option Tmp} {xs:List Operand} {ts:Array TypeId} {ty:TypeId} {pos:String} {after:Array Edge} {gu:Option (Nat×Bool)}
theorem wq (hf:aA P f) (eB:E.mU xs=some args) (spec:Spec P w0 f args pre res post):y6 P n w0 ⟨d,.call ⟨.value (.func f),xs.toArray,ts⟩,ty,pos,after,gu⟩ E pre res post:=λG a w K Q s hs hK=>by
 have e:=s.mU eB;have hr:(execOp a.eval ⟨d,.call ⟨.value (.func f),xs.toArray,ts⟩,ty,pos,after,gu⟩).run P w= .ok (.enter f args.toArray) w:=by
  exact paK
 exact paX
theorem LY {t:Tmp} {im:List Value} (hf:aA P f) (ht:E.get t=some (.func (.func f) #[] im.toArray)) (eB:E.mU xs=some args) (spec:Spec P w0 f (args++im) pre res post):y6 P n w0 ⟨d,.call ⟨.value (.tmp t),xs.toArray,ts⟩,ty,pos,after,gu⟩ E pre res post:=λG a w K Q s hs hK=>by
 have e:=s.mU eB;have e2:a.eval (.tmp t)= .func (.func f) #[] im.toArray:=s.ev (x:= .tmp t) ht;have hr:(execOp a.eval ⟨d,.call ⟨.value (.tmp t),xs.toArray,ts⟩,ty,pos,after,gu⟩).run P w= .ok (.enter f (args++im).toArray) w:=by
  have h:=fI hf (args++im).toArray w;simp[execOp,resolve,e2,Deferred.ofValue,invoke,e]at h ⊢;exact h
 exact paX
theorem vv (hf:aA P f) (eB:E.mU xs=some args) (spec:Spec P w0 f args emp res post):cn P n w0 ⟨d,.call ⟨.value (.func f),xs.toArray,ts⟩,ty,pos,after,gu⟩ E H res (λx=>post x*H):=cn.mk' (wq hf eB spec) aB.symm
theorem vA (hf:aA P f) (eB:E.mU xs=some args) (spec:Spec P w0 f args pre res post) (hH:H=pre*F):cn P n w0 ⟨d,.call ⟨.value (.func f),xs.toArray,ts⟩,ty,pos,after,gu⟩ E H res (λx=>post x*F):=cn.mk' (wq hf eB spec) hH
end call
def bA (P:Program) (w0:World) (f:FuncId) (args:List Value) (H:af) (v:Value):Prop:=
 ∀w,Sat w0 w H->Calls P f args.toArray w λe w'=>e= .returned v/\Sat w0 w' H
theorem LW {f:FuncId} {args:List Value} {v:Value} {d:Option Tmp} {xs:List Operand} {ts:Array TypeId} {ty:TypeId} {pos:String} {after:Array Edge} {gu:Option (Nat×Bool)} (hf:aA P f) (eB:E.mU xs=some args) (spec:bA P w0 f args H v):cv P n w0 ⟨d,.call ⟨.value (.func f),xs.toArray,ts⟩,ty,pos,after,gu⟩ E H v:=λa w K Q s hs hK=>by
 have e:=s.mU eB;have hr:(execOp a.eval ⟨d,.call ⟨.value (.func f),xs.toArray,ts⟩,ty,pos,after,gu⟩).run P w= .ok (.enter f args.toArray) w:=by
  exact paK
 unfold Oper.wp;rw[hr];refine(spec w hs).mono ?_;rintro e w' ⟨rfl,eI⟩;exact hK w' eI
def aN:Nat->List Value->Env
 |_,[]=>[]
 |k,v::r=>(k,v)::aN (k+1) r
theorem wE:∀(l:List Value) (k t:Nat) (v:Value),(aN k l).get t=some v->k<=t/\l[t - k]? =some v
 |[],k,t,v,h=>by simp[aN,Env.get]at h
 |u::r,k,t,v,h=>by
  rw[aN,Env.jV]at h;split at h
  ·rename_i e;subst e;simp at h;simp[h]
  ·obtain⟨h1,h2⟩:=wE r (k+1) t v h;refine⟨by omega,?_⟩;rw[show t - k=(t - (k+1))+1 by omega];simpa using h2
def Bf (P:Program) (n:fT) (w0:World) (fn:Func) (R:Value->af->Prop):Exit->St->Prop
 | .normal,σ| .ret,σ=>σ.D=[]/\∃v,(∀a w,Good n w0 σ a w->(results fn a.tmps).run P w= .ok v w)/\R v σ.H
 |_,_=>False
theorem Spec.enter {α f} {fn:Func} {c} {args:List Value} {pre} {res:α->Value} {post m} (hf:P.funcs[f]? =some fn) (hb:fn.body=some c) (hn:fn.ntmps=m) (hle:Nat.ble args.length m=true) (h:∀G,WS P ⟨m,none⟩ w0 c (Bf P ⟨m,none⟩ w0 fn λv H'=>∃x,v=res x/\aq H' (post x*G)) ⟨aN 0 args,[],pre*G⟩):Spec P w0 f args pre res post:=by
 intro G w hs;subst hn;have Uk:args.length<=fn.ntmps:=Yu hle;refine calls_of_wp hf hb (wp_mono ((wpIn_wide (n:=0)).1 (h G _ w ⟨⟨by simp;omega,λt v ht=> ?_⟩,rfl,hs⟩)) ?_)
 ·obtain⟨_,h2⟩:=wE args 0 t v ht;have bW:=(az.1 h2).1;simp only[uck]at h2 bW;simp[ucl,bW]at h2 ⊢;simp[h2]
 ·intro e a w' ⟨σ,h1,h2⟩;cases e with
  |normal=>obtain⟨hD,v,hr,x,hv,he⟩:=h1;exact⟨h2.defers.trans hD,v,hr a w' h2,x,by rw[hv],he.sat h2.sat⟩
  |ret=>obtain⟨hD,v,hr,x,hv,he⟩:=h1;exact⟨h2.defers.trans hD,v,hr a w' h2,x,by rw[hv],he.sat h2.sat⟩
  |_=>exact h1.elim
section ret
variable {fn:Func} {R:Value->af->Prop}
theorem aj {e} (he:e= .ret\/e= .normal) (hr:fn.results= #[]) (h:R (.tuple #[]) H):Bf P n w0 fn R e ⟨E,[],H⟩:=by
 rcases he with rfl|rfl<;>exact⟨rfl,_,λa w g=>results_none hr _ _ _,h⟩
theorem aC {e t v} (he:e= .ret\/e= .normal) (hr:fn.results= #[.tmp t]) (hv:E.get t=some v) (h:R v H):Bf P n w0 fn R e ⟨E,[],H⟩:=by
 rcases he with rfl|rfl<;>exact⟨rfl,v,λa w g=>by rw[results_tmp hr,g.dQ.get t v hv],h⟩
theorem de {e t t' v u} (he:e= .ret\/e= .normal) (hr:fn.results= #[.tmp t,.tmp t']) (hv:E.get t=some v) (hu:E.get t'=some u) (h:R (.tuple #[v,u]) H):Bf P n w0 fn R e ⟨E,[],H⟩:=by
 rcases he with rfl|rfl<;>exact⟨rfl,_,λa w g=>by rw[results_tmp2 hr,g.dQ.get t v hv,g.dQ.get t' u hu],h⟩
end ret
end
section
open Go.RowKit
variable {P:Program} {n:fT} {w0:World} {E:Env} {D:List Deferred} {H F R:af}
class tc (v:Value) (x:outParam UInt8):Prop where eq:v=u8 x
class zag (v:Value) (x:outParam UInt32):Prop where eq:v=u32 x
class eU (v:Value) (x:outParam UInt64):Prop where eq:v=u64 x
instance (x:UInt8):tc (u8 x) x:=⟨rfl⟩
instance (x:UInt32):zag (u32 x) x:=⟨rfl⟩
instance (x:UInt64):eU (u64 x) x:=⟨rfl⟩
instance:tc (.int .u8 0) 0:=⟨rfl⟩
instance:tc (.int .u8 1) 1:=⟨rfl⟩
instance:tc (.int .u8 2) 2:=⟨rfl⟩
instance:tc (.int .u8 8) 8:=⟨rfl⟩
instance:zag (.int .u32 0) 0:=⟨rfl⟩
instance:zag (.int .u32 1) 1:=⟨rfl⟩
instance:zag (.int .u32 4294967295) 4294967295:=⟨rfl⟩
instance:eU (.int .u64 80) 80:=⟨rfl⟩
instance:eU (.int .u64 1000) 1000:=⟨rfl⟩
instance:eU (.int .u64 1280) 1280:=⟨rfl⟩
instance:eU (.int .u64 2000) 2000:=⟨rfl⟩
instance:eU (.int .u64 3000) 3000:=⟨rfl⟩
theorem bF (op t a b k k' x y w):(eqGuard op t a b (.int k x) (.int k' y)).run P w= .ok () w:=by
 unfold eqGuard;cases op<;>rfl
theorem wrap_u32 (m):IntKind.u32.wrap m=m % 4294967296:=by simp[IntKind.wrap,IntKind.signed,IntKind.bits]
theorem wrap_u64 (m):IntKind.u64.wrap m=m % 18446744073709551616:=by simp[IntKind.wrap,IntKind.signed,IntKind.bits]
theorem wrap_u8 (m):IntKind.u8.wrap m=m % 256:=by simp[IntKind.wrap,IntKind.signed,IntKind.bits]
theorem pL {m} {x:UInt32} (h:m=(x.toNat:Int)):Value.int .u32 m=u32 x:=by rw[h];rfl
theorem zbo {m} {x:UInt64} (h:m=(x.toNat:Int)):Value.int .u64 m=u64 x:=by rw[h];rfl
theorem KD {m} {x:UInt8} (h:m=(x.toNat:Int)):Value.int .u8 m=u8 x:=by rw[h];rfl
section
variable {t:TypeId} {v u:Value}
instance Tr {x y:UInt32} [a:zag v x] [b:zag u y]:dL P .add t v u (u32 (x+y)):=by
 obtain⟨rfl⟩:=a;obtain⟨rfl⟩:=b;refine⟨λw=> ?_,λw _ _=>bF _ _ _ _ _ _ _ _ _⟩;have e:u32 (x+y)= .int .u32 (IntKind.u32.wrap ((x.toNat:Int)+(y.toNat:Int))):=(pL (by rw[wrap_u32,ubI];omega)).symm;rw[e];rfl
instance Vl {x y:UInt32} [a:zag v x] [b:zag u y]:dL P .sub t v u (u32 (x - y)):=by
 obtain⟨rfl⟩:=a;obtain⟨rfl⟩:=b;refine⟨λw=> ?_,λw _ _=>bF _ _ _ _ _ _ _ _ _⟩;have hx:=x.toNat_lt;have hy:=y.toNat_lt;have e:u32 (x - y)= .int .u32 (IntKind.u32.wrap ((x.toNat:Int) - (y.toNat:Int))):=(pL (by rw[wrap_u32,UInt32.toNat_sub];omega)).symm;rw[e];rfl
instance Ts {x y:UInt64} [a:eU v x] [b:eU u y]:dL P .add t v u (u64 (x+y)):=by
 obtain⟨rfl⟩:=a;obtain⟨rfl⟩:=b;refine⟨λw=> ?_,λw _ _=>bF _ _ _ _ _ _ _ _ _⟩;have e:u64 (x+y)= .int .u64 (IntKind.u64.wrap ((x.toNat:Int)+(y.toNat:Int))):=(zbo (by rw[wrap_u64,uaO];omega)).symm;rw[e];rfl
instance Vm {x y:UInt64} [a:eU v x] [b:eU u y]:dL P .sub t v u (u64 (x - y)):=by
 obtain⟨rfl⟩:=a;obtain⟨rfl⟩:=b;refine⟨λw=> ?_,λw _ _=>bF _ _ _ _ _ _ _ _ _⟩;have hx:=x.toNat_lt;have hy:=y.toNat_lt;have e:u64 (x - y)= .int .u64 (IntKind.u64.wrap ((x.toNat:Int) - (y.toNat:Int))):=(zbo (by rw[wrap_u64,UInt64.toNat_sub];omega)).symm;rw[e];rfl
instance U3 {x y:UInt64} [a:eU v x] [b:eU u y]:dL P .mul t v u (u64 (x*y)):=by
 obtain⟨rfl⟩:=a;obtain⟨rfl⟩:=b;refine⟨λw=> ?_,λw _ _=>bF _ _ _ _ _ _ _ _ _⟩;have e:u64 (x*y)= .int .u64 (IntKind.u64.wrap ((x.toNat:Int)*(y.toNat:Int))):=(zbo (by rw[wrap_u64,UInt64.toNat_mul];simp)).symm;rw[e];rfl
instance Vf {x y:UInt64} [a:eU v x] [b:eU u y] [hy:NeZero y.toNat]:dL P .rem t v u (u64 (x % y)):=by
 obtain⟨rfl⟩:=a;obtain⟨rfl⟩:=b;refine⟨λw=> ?_,λw _ _=>bF _ _ _ _ _ _ _ _ _⟩;have e:u64 (x % y)= .int .u64 ((x.toNat:Int).tmod (y.toNat:Int)):=(zbo (by rw[UInt64.toNat_mod,Int.ofNat_tmod])).symm;rw[e];have h0:y.toNat≠0:=hy.out;simp[binOp,u64,Op.intDiv,h0]
instance Vz {x y:UInt8} [a:tc v x] [b:tc u y]:dL P .add t v u (u8 (x+y)):=by
 obtain⟨rfl⟩:=a;obtain⟨rfl⟩:=b;refine⟨λw=> ?_,λw _ _=>bF _ _ _ _ _ _ _ _ _⟩;have e:u8 (x+y)= .int .u8 (IntKind.u8.wrap ((x.toNat:Int)+(y.toNat:Int))):=(KD (by rw[wrap_u8,UInt8.toNat_add];omega)).symm;rw[e];rfl
theorem vJ {k x y p} [Decidable p] (h:p↔x=y):∀w,(binOp .eql t (.int k x) (.int k y)).run P w= .ok (.bool (decide p)) w:=λw=>by
 have:decide p=(x==y):=by rw[YX];simp[h]
 rw[this];simp[binOp,Op.intCmp]
theorem vK {k x y p} [Decidable p] (h:p↔x=y):∀w,(binOp .neq t (.int k x) (.int k y)).run P w= .ok (.bool (!decide p)) w:=λw=>by
 have:(!decide p)=(x !=y):=by rw[YX];simp[h]
 rw[this];simp[binOp,Op.intCmp]
theorem As {k x y p} [Decidable p] (h:p↔x<y):∀w,(binOp .lss t (.int k x) (.int k y)).run P w= .ok (.bool (decide p)) w:=λw=>by
 have:decide p=decide (x<y):=by rw[YX];simp[h]
 rw[this];simp[binOp,Op.intCmp]
theorem Ar {k x y p} [Decidable p] (h:p↔x<=y):∀w,(binOp .leq t (.int k x) (.int k y)).run P w= .ok (.bool (decide p)) w:=λw=>by
 have:decide p=decide (x<=y):=by rw[YX];simp[h]
 rw[this];simp[binOp,Op.intCmp]
theorem Aq {k x y p} [Decidable p] (h:p↔y<x):∀w,(binOp .gtr t (.int k x) (.int k y)).run P w= .ok (.bool (decide p)) w:=λw=>by
 have:decide p=decide (x>y):=by rw[YX];simp[h]
 rw[this];simp[binOp,Op.intCmp]
theorem Ap {k x y p} [Decidable p] (h:p↔y<=x):∀w,(binOp .geq t (.int k x) (.int k y)).run P w= .ok (.bool (decide p)) w:=λw=>by
 have:decide p=decide (x>=y):=by rw[YX];simp[h]
 rw[this];simp[binOp,Op.intCmp]
instance Tx {x y:UInt32} [a:zag v x] [b:zag u y]:dL P .eql t v u (.bool (decide (x=y))):=by
 obtain⟨rfl⟩:=a;obtain⟨rfl⟩:=b;exact⟨vJ (by rw[<-HL];omega),λw _ _=>bF _ _ _ _ _ _ _ _ _⟩
instance U5 {x y:UInt32} [a:zag v x] [b:zag u y]:dL P .neq t v u (.bool (!decide (x=y))):=by
 obtain⟨rfl⟩:=a;obtain⟨rfl⟩:=b;exact⟨vK (by rw[<-HL];omega),λw _ _=>bF _ _ _ _ _ _ _ _ _⟩
instance UY {x y:UInt32} [a:zag v x] [b:zag u y]:dL P .lss t v u (.bool (decide (x<y))):=by
 obtain⟨rfl⟩:=a;obtain⟨rfl⟩:=b;exact⟨As (by rw[GM];omega),λw _ _=>bF _ _ _ _ _ _ _ _ _⟩
instance UT {x y:UInt32} [a:zag v x] [b:zag u y]:dL P .leq t v u (.bool (decide (x<=y))):=by
 obtain⟨rfl⟩:=a;obtain⟨rfl⟩:=b;exact⟨Ar (by rw[uad];omega),λw _ _=>bF _ _ _ _ _ _ _ _ _⟩
instance TD {x y:UInt32} [a:zag v x] [b:zag u y]:dL P .gtr t v u (.bool (decide (y<x))):=by
 obtain⟨rfl⟩:=a;obtain⟨rfl⟩:=b;exact⟨Aq (by rw[GM];omega),λw _ _=>bF _ _ _ _ _ _ _ _ _⟩
instance TB {x y:UInt32} [a:zag v x] [b:zag u y]:dL P .geq t v u (.bool (decide (y<=x))):=by
 obtain⟨rfl⟩:=a;obtain⟨rfl⟩:=b;exact⟨Ap (by rw[uad];omega),λw _ _=>bF _ _ _ _ _ _ _ _ _⟩
instance Ty {x y:UInt64} [a:eU v x] [b:eU u y]:dL P .eql t v u (.bool (decide (x=y))):=by
 obtain⟨rfl⟩:=a;obtain⟨rfl⟩:=b;exact⟨vJ (by rw[<-ubj];omega),λw _ _=>bF _ _ _ _ _ _ _ _ _⟩
instance U6 {x y:UInt64} [a:eU v x] [b:eU u y]:dL P .neq t v u (.bool (!decide (x=y))):=by
 obtain⟨rfl⟩:=a;obtain⟨rfl⟩:=b;exact⟨vK (by rw[<-ubj];omega),λw _ _=>bF _ _ _ _ _ _ _ _ _⟩
instance UZ {x y:UInt64} [a:eU v x] [b:eU u y]:dL P .lss t v u (.bool (decide (x<y))):=by
 obtain⟨rfl⟩:=a;obtain⟨rfl⟩:=b;exact⟨As (by rw[WC];omega),λw _ _=>bF _ _ _ _ _ _ _ _ _⟩
instance UU {x y:UInt64} [a:eU v x] [b:eU u y]:dL P .leq t v u (.bool (decide (x<=y))):=by
 obtain⟨rfl⟩:=a;obtain⟨rfl⟩:=b;exact⟨Ar (by rw[YI];omega),λw _ _=>bF _ _ _ _ _ _ _ _ _⟩
instance TE {x y:UInt64} [a:eU v x] [b:eU u y]:dL P .gtr t v u (.bool (decide (y<x))):=by
 obtain⟨rfl⟩:=a;obtain⟨rfl⟩:=b;exact⟨Aq (by rw[WC];omega),λw _ _=>bF _ _ _ _ _ _ _ _ _⟩
instance TC {x y:UInt64} [a:eU v x] [b:eU u y]:dL P .geq t v u (.bool (decide (y<=x))):=by
 obtain⟨rfl⟩:=a;obtain⟨rfl⟩:=b;exact⟨Ap (by rw[YI];omega),λw _ _=>bF _ _ _ _ _ _ _ _ _⟩
instance VE {x y:UInt8} [a:tc v x] [b:tc u y]:dL P .eql t v u (.bool (decide (x=y))):=by
 obtain⟨rfl⟩:=a;obtain⟨rfl⟩:=b;exact⟨vJ (by rw[<-ZW];omega),λw _ _=>bF _ _ _ _ _ _ _ _ _⟩
instance Ww {x y:UInt8} [a:tc v x] [b:tc u y]:dL P .neq t v u (.bool (!decide (x=y))):=by
 obtain⟨rfl⟩:=a;obtain⟨rfl⟩:=b;exact⟨vK (by rw[<-ZW];omega),λw _ _=>bF _ _ _ _ _ _ _ _ _⟩
instance W0 {x y:Int}:dL P .eql t (.int .i64 x) (.int .i64 y) (.bool (decide (x=y))):=⟨vJ ucB,λw _ _=>bF _ _ _ _ _ _ _ _ _⟩
instance YB {x y:Int}:dL P .neq t (.int .i64 x) (.int .i64 y) (.bool (!decide (x=y))):=⟨vK ucB,λw _ _=>bF _ _ _ _ _ _ _ _ _⟩
instance Yz {x y:Int}:dL P .lss t (.int .i64 x) (.int .i64 y) (.bool (decide (x<y))):=⟨As ucB,λw _ _=>bF _ _ _ _ _ _ _ _ _⟩
instance Yx {x y:Int}:dL P .leq t (.int .i64 x) (.int .i64 y) (.bool (decide (x<=y))):=⟨Ar ucB,λw _ _=>bF _ _ _ _ _ _ _ _ _⟩
instance Xa {x y:Int}:dL P .gtr t (.int .i64 x) (.int .i64 y) (.bool (decide (y<x))):=⟨Aq ucB,λw _ _=>bF _ _ _ _ _ _ _ _ _⟩
instance W6 {x y:Int}:dL P .geq t (.int .i64 x) (.int .i64 y) (.bool (decide (y<=x))):=⟨Ap ucB,λw _ _=>bF _ _ _ _ _ _ _ _ _⟩
instance WZ {x y:Bool} [h:eN P t .bool]:dL P .eql t (.bool x) (.bool y) (.bool (x==y)):=⟨λw=>run_eql_bool w t x y h.eq,λw _ _=>rfl⟩
instance YA {x y:Bool} [h:eN P t .bool]:dL P .neq t (.bool x) (.bool y) (.bool (!(x==y))):=⟨λw=>run_neq_bool w t x y h.eq,λw _ _=>rfl⟩
instance YF:Qv P .not (.bool true) (.bool false):=⟨λw=>rfl⟩
instance YE:Qv P .not (.bool false) (.bool true):=⟨λw=>rfl⟩
instance (priority:=low) YD {x:Bool}:Qv P .not (.bool x) (.bool (!x)):=⟨λw=>rfl⟩
end
section
variable {d:Option Tmp} {ty:TypeId} {pos:String} {after:Array Edge} {gu:Option (Nat×Bool)} {x y:Operand}
theorem wj {t t2 a b} (hx:E.ev x=some (.int .i64 a)) (hy:E.ev y=some (.int .i64 b)) (h: -9223372036854775808<=a+b/\a+b<=9223372036854775807):OpQ P n w0 ⟨d,.binOp .add t x y t2,ty,pos,after,gu⟩ E H (.int .i64 (a+b)):=λac w s hs=>by
 have:=IntWalk.i64_in (a+b) h;exact pbp
theorem I3 {t t2 a b} (hx:E.ev x=some (.int .i64 a)) (hy:E.ev y=some (.int .i64 b)) (h: -9223372036854775808<=a - b/\a - b<=9223372036854775807):OpQ P n w0 ⟨d,.binOp .sub t x y t2,ty,pos,after,gu⟩ E H (.int .i64 (a - b)):=λac w s hs=>by
 have:=IntWalk.i64_in (a - b) h;exact pbp
theorem I2 {t t2 a b} (hx:E.ev x=some (.int .i64 a)) (hy:E.ev y=some (.int .i64 b)) (h: -9223372036854775808<=a*b/\a*b<=9223372036854775807):OpQ P n w0 ⟨d,.binOp .mul t x y t2,ty,pos,after,gu⟩ E H (.int .i64 (a*b)):=λac w s hs=>by
 have:=IntWalk.i64_in (a*b) h;exact pbp
theorem DF {t a} (hx:E.ev x=some (.int .i64 a)) (h: -9223372036854775807<=a/\a<=9223372036854775807):OpQ P n w0 ⟨d,.unOp .neg t x,ty,pos,after,gu⟩ E H (.int .i64 (-a)):=λac w s hs=>by
 have:=IntWalk.i64_in (-a) (by omega);simp[execOp,s.ev hx,Op.unary,Op.intArith,this]
theorem zeS {t t2 a b} (hx:E.ev x=some (.int .i64 a)) (hy:E.ev y=some (.int .i64 b)) (h:0<=a/\0<b):OpQ P n w0 ⟨d,.binOp .rem t x y t2,ty,pos,after,gu⟩ E H (.int .i64 (a % b)):=λac w s hs=>by
 have h0:b≠0:=by omega
 have:=Int.tmod_eq_emod_of_nonneg (a:=a) (b:=b) h.1;simp[execOp,s.ev hx,s.ev hy,bF,binOp,Op.intDiv,h0,this]
theorem NZ {t t2 a b} (hx:E.ev x=some (.int .i64 a)) (hy:E.ev y=some (.int .i64 b)) (h:0<=a/\0<b/\a<=9223372036854775807):OpQ P n w0 ⟨d,.binOp .quo t x y t2,ty,pos,after,gu⟩ E H (.int .i64 (a / b)):=λac w s hs=>by
 have h0:b≠0:=by omega
 have h1:=Int.tdiv_eq_ediv_of_nonneg (a:=a) (b:=b) h.1;have h2:=Int.ediv_le_self b h.1;have h3:=Int.ediv_nonneg h.1 (Int.le_of_lt h.2.1);have h4:=IntWalk.i64_in (a / b) (by omega);simp[execOp,s.ev hx,s.ev hy,bF,binOp,Op.intDiv,h0,h1,h4]
theorem LU {a b:UInt32} {ts:Array TypeId} {v u:Value} (hx:E.ev x=some v) (hy:E.ev y=some u) (h1:zag v a) (h2:zag u b):OpQ P n w0 ⟨d,.call ⟨.builtin .max,#[x,y],ts⟩,ty,pos,after,gu⟩ E H (u32 (max a b)):=λac w s hs=>by
 obtain⟨rfl⟩:=h1;obtain⟨rfl⟩:=h2;have h:=M5 (P:=P) (n:=n) (w0:=w0) (H:=H) (d:=d) (ty:=ty) (pos:=pos) (after:=after) (gu:=gu) (ts:=ts) hx hy ac w s hs;rw[h];have:(max a b).toNat=if a.toNat<=b.toNat then b.toNat else a.toNat:=by
  show(if a<=b then b else a).toNat=_;by_cases hab:a<=b
  ·rw[jF hab,jF (uad.1 hab)]
  ·rw[eQ hab,eQ (λh=>hab (uad.2 h))]
 congr 2;show Value.int .u32 _=Value.int .u32 _;congr 1;rw[this];split<;>split<;>omega
theorem LV {a b:UInt64} {ts:Array TypeId} {v u:Value} (hx:E.ev x=some v) (hy:E.ev y=some u) (h1:eU v a) (h2:eU u b):OpQ P n w0 ⟨d,.call ⟨.builtin .max,#[x,y],ts⟩,ty,pos,after,gu⟩ E H (u64 (max a b)):=λac w s hs=>by
 obtain⟨rfl⟩:=h1;obtain⟨rfl⟩:=h2;have h:=M5 (P:=P) (n:=n) (w0:=w0) (H:=H) (d:=d) (ty:=ty) (pos:=pos) (after:=after) (gu:=gu) (ts:=ts) hx hy ac w s hs;rw[h];have:(max a b).toNat=if a.toNat<=b.toNat then b.toNat else a.toNat:=by
  show(if a<=b then b else a).toNat=_;by_cases hab:a<=b
  ·rw[jF hab,jF (YI.1 hab)]
  ·rw[eQ hab,eQ (λh=>hab (YI.2 h))]
 congr 2;show Value.int .u64 _=Value.int .u64 _;congr 1;rw[this];split<;>split<;>omega
theorem NY {a b ts} (hx:E.ev x=some (.int .i64 a)) (hy:E.ev y=some (.int .i64 b)):OpQ P n w0 ⟨d,.call ⟨.builtin .min,#[x,y],ts⟩,ty,pos,after,gu⟩ E H (.int .i64 (min a b)):=λac w s hs=>by
 rw[Qt (P:=P) (n:=n) (w0:=w0) (H:=H) hx hy ac w s hs];have:(if b<a then b else a)=min a b:=by omega
 rw[this]
theorem zfD {a b ts} (hx:E.ev x=some (.int .i64 a)) (hy:E.ev y=some (.int .i64 b)):OpQ P n w0 ⟨d,.call ⟨.builtin .max,#[x,y],ts⟩,ty,pos,after,gu⟩ E H (.int .i64 (max a b)):=λac w s hs=>by
 rw[M5 (P:=P) (n:=n) (w0:=w0) (H:=H) hx hy ac w s hs];have:(if b>a then b else a)=max a b:=by omega
 rw[this]
@[reducible] def aZ (l:List UInt8):Value:= .string ⟨l.toArray⟩
theorem NX {t} {l:List UInt8} (hx:E.ev x=some (aZ l)) (ht:eN P t .string):OpQ P n w0 ⟨d,.call ⟨.builtin .len,#[x],#[t]⟩,ty,pos,after,gu⟩ E H (.int .i64 (l.length:Int)):=GJ hx ht
theorem kD {src t:TypeId} {v:Value} {a:UInt64} {ds:TypeDesc} (hx:E.ev x=some v) (hv:eU v a) (hs:eN P src ds) (hd:eN P t (.int .u32)):OpQ P n w0 ⟨d,.convert src t x,ty,pos,after,gu⟩ E H (u32 a.toUInt32):=by
 obtain⟨rfl⟩:=hv;exact kX hx hs hd (by rw[wrap_u32];simp)
theorem eV {src t:TypeId} {v:Value} {a:UInt32} {ds:TypeDesc} (hx:E.ev x=some v) (hv:zag v a) (hs:eN P src ds) (hd:eN P t (.int .u64)):OpQ P n w0 ⟨d,.convert src t x,ty,pos,after,gu⟩ E H (u64 a.toUInt64):=by
 obtain⟨rfl⟩:=hv;exact kX hx hs hd (by have:=a.toNat_lt;rw[wrap_u64];simp;omega)
end
end
section
open Go.RowKit
variable {P:Program} {n:fT} {w0:World} {E:Env} {D:List Deferred} {H F R:af} {ops:Array Oper} {l':List Oper} {Q:Exit->St->Prop} {w:World}
def rows {α:Type} (e:TypeId) (size:Nat) (f:α->List Value) (v:Value) (l:List α):af:=Gs e size v l.length (l.flatMap f)
class cY {α:Type} (f:α->List Value) (size:Nat):Prop where
 eq:∀x,(f x).length=size
class dD (H:af) (v:Value) (α:outParam Type) (e:outParam TypeId) (size:outParam Nat) (f:outParam (α->List Value)) (l:outParam (List α)) (F:outParam af):Prop where
 eq:H=rows e size f v l*F
instance NG {α:Type} (e:TypeId) (size:Nat) (f:α->List Value) (v:Value) (l:List α) (F:af):dD (rows e size f v l*F) v α e size f l F:=⟨rfl⟩
instance (priority:=low) NJ {α:Type} (X H F:af) (e:TypeId) (size:Nat) (f:α->List Value) (v:Value) (l:List α) [h:dD H v α e size f l F]:dD (X*H) v α e size f l (X*F):=⟨by rw[h.eq,aM]⟩
instance (priority:=low) NI {α:Type} (X H F:af) (e:TypeId) (size:Nat) (f:α->List Value) (v:Value) (l:List α) [h:dD X v α e size f l F]:dD (X*H) v α e size f l (F*H):=⟨by rw[h.eq,ad]⟩
class GL (P:Program) (t:TypeId) (size:outParam Nat):Prop where
 eq:(P.info? t).map (·.size)=some size
instance Sm (t:TypeId) [h:fi P t]:GL P t 1:=⟨h.size⟩
instance Sl (t:TypeId) (s:Nat) [h:mN P t s]:GL P t s:=⟨h.size⟩
class lj (P:Program) (t:TypeId) (e:outParam TypeId) (size bytes:outParam Nat):Prop where
 out:yt P t e size bytes
class fB (i:Int) (k:outParam Nat):Prop where
 eq:i=(k:Int)
instance N5 (k:Nat):fB ((k:Nat):Int) k:=⟨rfl⟩
instance N7:fB 0 0:=⟨rfl⟩
instance:fB 2 2:=⟨rfl⟩
instance:fB 3 3:=⟨rfl⟩
instance:fB 4 4:=⟨rfl⟩
instance:fB 5 5:=⟨rfl⟩
instance:fB 8 8:=⟨rfl⟩
instance:fB 12 12:=⟨rfl⟩
instance:fB 13 13:=⟨rfl⟩
instance:fB 16 16:=⟨rfl⟩
instance PT:fB 1 1:=⟨rfl⟩
instance PR (i j:Int) (k m:Nat) [a:fB i k] [b:fB j m]:fB (i+j) (k+m):=⟨by rw[a.eq,b.eq];simp⟩
def pX (v:Value) (size k j:Nat):Value:=match v with
 | .slice (some a) _ _=> .pointer (some (a.add (k*size+j)))
 |_=>undef
theorem bZ {α:Type} (f:α->List Value) (size:Nat) (hf:∀x,(f x).length=size) (l:List α):(l.flatMap f).length=l.length*size:=by
 induction l with
 |nil=>simp
 |cons x l ih=>simp[ih,hf,uar];omega
theorem nN {α:Type} (f:α->List Value) (size:Nat) (hf:∀x,(f x).length=size):∀(l:List α) (k j:Nat) (x:α),l[k]? =some x->j<size->(l.flatMap f)[k*size+j]? =(f x)[j]?
 |[],k,j,x,h,_=>by simp at h
 |y::l,0,j,x,h,hj=>by
  simp at h;subst h;simp only[RM,ucm,ubz];rw[ube (by rw[hf];exact hj)]
 |y::l,k+1,j,x,h,hj=>by
  have:=nN f size hf l k j x (by simpa using h) hj;simp only[RM];rw[Zq (by rw[hf,uar];omega),hf,<-this];congr 1;rw[uar];omega
theorem mh {α:Type} (f:α->List Value) (size:Nat) (hf:∀x,(f x).length=size):∀(l:List α) (k:Nat) (y:α),k<l.length->(l.set k y).flatMap f=(l.flatMap f).take (k*size)++f y++(l.flatMap f).drop (k*size+size)
 |[],k,y,h=>by simp at h
 |x::l,0,y,h=>by
  have hx:=hf x;have e:((f x++l.flatMap f).drop (0*size+size))=l.flatMap f:=by rw[ucm,ubz,<-hx,List.drop_left]
  simp only[List.set_cons_zero,RM];rw[e];simp
 |x::l,k+1,y,h=>by
  have ih:=mh f size hf l k y (by simpa using h);have hx:=hf x;have e1:(f x++l.flatMap f).take ((k+1)*size)=f x++(l.flatMap f).take (k*size):=by
   rw[show(k+1)*size=(f x).length+k*size by rw[hx,uar];omega,ua5]
  have e2:(f x++l.flatMap f).drop ((k+1)*size+size)=(l.flatMap f).drop (k*size+size):=by
   rw[show(k+1)*size+size=(f x).length+(k*size+size) by rw[hx,uar];omega,ua6]
  simp only[uaC,RM,ih];rw[e1,e2];simp
theorem pP {α e size f v} {l:List α} [hf:cY f size] (hp:0<size) (h:Sat w0 w (rows e size f v l*F)) {k} (hk:k<l.length):
 ∃g off cap,v= .slice (some ⟨g,off,none⟩) l.length cap/\(∀j u,j<size->(f l[k])[j]? =some u->w.cell? ⟨g,off+(k*size+j),none⟩=some u):=by
 have mi:l.flatMap f≠[]:=by
  intro e0;have:=bZ f size hf.eq l;rw[e0]at this;have:=Nat.mul_pos (ubZ (uau _) hk) hp;simp at*;omega
 obtain⟨g,off,cap,hv,_,_,hc⟩:=Sat.Dl h mi
 exact⟨g,off,cap,hv,λj u hj hu=>(hc _ u (by rw[nN f size hf.eq l k j l[k] (by simp) hj];exact hu)).1⟩
theorem gz {α e size f v} {l:List α} (h:Sat w0 w (rows e size f v l*F)):∃A c,v= .slice A l.length c:=Sat.K1 h
structure ix (w:World) (size:Nat) {α:Type} (f:α->List Value) (v:Value) (l:List α):Prop where
 form:∃A c,v= .slice A l.length c/\l.length<=c/\c<=maxLen
 cell:∀k (hk:k<l.length),∃g off cap,v= .slice (some ⟨g,off,none⟩) l.length cap/\∀j u,j<size->(f l[k])[j]? =some u->w.cell? ⟨g,off+(k*size+j),none⟩=some u
class eX (w0:World) (H:af) (v:Value) (α:outParam Type) (size:outParam Nat) (f:outParam (α->List Value)) (l:outParam (List α)):Prop where
 at_:∀w,Sat w0 w H->ix w size f v l
theorem Gk {α:Type} {e:TypeId} {size:Nat} {f:α->List Value} {v:Value} {l:List α} [hf:cY f size] (hp:0<size) (h:Sat w0 w (rows e size f v l*F)):ix w size f v l:=by
 refine⟨?_,λk hk=>pP hp h hk⟩;obtain⟨_,⟨A,rfl,h0,_⟩|⟨g,off,cap,_,_,rfl,h1,h2,_⟩⟩:=Sat.jN h
 ·exact⟨A,0,by rw[h0],by omega,by simp[maxLen]⟩
 ·exact⟨_,_,rfl,h1,h2⟩
instance Se {α:Type} (e:TypeId) (size:Nat) (f:α->List Value) (v:Value) (l:List α) (F:af) [hf:cY f size] [hp:NeZero size]:eX w0 (rows e size f v l*F) v α size f l:=⟨λw h=>Gk (Nat.pos_of_ne_zero hp.out) h⟩
instance (priority:=low) Sf {α:Type} (X H:af) (size:Nat) (f:α->List Value) (v:Value) (l:List α) [h:eX w0 H v α size f l]:eX w0 (X*H) v α size f l:=⟨λw hs=>h.at_ w hs.drop⟩
instance (priority:=low) Sd {α:Type} (X H:af) (size:Nat) (f:α->List Value) (v:Value) (l:List α) [h:eX w0 X v α size f l]:eX w0 (X*H) v α size f l:=⟨λw hs=>h.at_ w hs.Cq⟩
instance fy {α:Type} (e:TypeId) (size:Nat) (f:α->List Value) (v:Value) (l:List α) [hf:cY f size] [hp:NeZero size]:eX w0 (rows e size f v l) v α size f l:=⟨λw h=>Gk (F:=emp) (Nat.pos_of_ne_zero hp.out) (h.cast b5.symm)⟩
instance:NeZero 1:=⟨by decide⟩
instance:NeZero 2:=⟨by decide⟩
instance:NeZero 3:=⟨by decide⟩
instance:NeZero 6:=⟨by decide⟩
instance:NeZero 7:=⟨by decide⟩
section quiet
variable {α:Type} {e:TypeId} {size:Nat} {f:α->List Value} {v:Value} {l:List α} {d:Option Tmp} {ty:TypeId} {pos:String} {after:Array Edge} {gu:Option (Nat×Bool)} {x y:Operand}
theorem I1 {t e':TypeId} (hx:E.ev x=some v) (hl:eX w0 H v α size f l) (ht:eN P t (.slice e')):OpQ P n w0 ⟨d,.call ⟨.builtin .len,#[x],#[t]⟩,ty,pos,after,gu⟩ E H (.int .i64 (l.length:Int)):=λa w s hs=>by
 obtain⟨A,c,rfl,_⟩:=(hl.at_ w hs).form;exact M4 hx ht a w s hs
theorem vH {t e2:TypeId} {q:IntKind} {i:Int} {k:Nat} (hx:E.ev x=some v) (hy:E.ev y=some (.int q i)) (hl:eX w0 H v α size f l) (ht:eN P t (.slice e2)) (fP:GL P e2 size) (hi:fB i k) (hk:k<l.length):
 OpQ P n w0 ⟨d,.indexAddr t x y,ty,pos,after,gu⟩ E H (pX v size k 0):=λa w s hs=>by
 obtain⟨g,off,cap,rfl,_⟩:=(hl.at_ w hs).cell k hk
 obtain⟨i0,uY,zq⟩:=AU.1 fP.eq
 obtain rfl:=hi.eq
 have FW:P.elem t=e2:=by simp[Program.elem,ht.eq]
 have h:=run_indexAt_slice (P:=P) w t ⟨g,off,none⟩ l.length cap q (k:Int) (by rw[ht.eq,FW])
 rw[jF ⟨by omega,by omega⟩,FW]at h
 simp[execOp,s.ev hx,s.ev hy,h,sizeOf,typeInfo,uY,zq,pX]
theorem ui (w) {s k o t} (a0:Addr) (h:eo P s k o t):(Instr.fieldAt s (.pointer (some a0)) k).run P w= .ok (.pointer (some (a0.add o))) w:=by
 obtain⟨size,h⟩:=h.eq;unfold AA at h;split at h
 ·rename_i fs hu;split at h
  ·rename_i f hf;split at h
   ·rename_i i hi;simp only[Z9,ua9]at h;obtain⟨h1,h2,rZ⟩:=h;subst h1;simp[Instr.fieldAt,run_underlying hu,hf,Instr.sureAddr,fieldPlace,sizeOf,typeInfo,hi,rZ]
   ·cases h
  ·cases h
 ·cases h
theorem eG {s k j off r:Nat} {VF:Nat} {t:TypeId} (hx:E.ev x=some (pX v size k j)) (hl:eX w0 H v α size f l) (h:eo P s VF off t) (hr:j+off=r) (hk:k<l.length):OpQ P n w0 ⟨d,.fieldAddr s x VF,ty,pos,after,gu⟩ E H (pX v size k r):=λa w se hs=>by
 subst hr;obtain⟨g,o,cap,rfl,_⟩:=(hl.at_ w hs).cell k hk;have e1:=ui (P:=P) w ((⟨g,o,none⟩:Addr).add (k*size+j)) h;rw[add_lit,add_lit]at e1;simp[execOp,se.ev hx,pX,add_lit,e1,uba]
theorem lg {t:TypeId} {k j:Nat} {z:α} {u:Value} (hx:E.ev x=some (pX v size k j)) (hl:eX w0 H v α size f l) (ht:fi P t) (hf:cY f size) (hz:l[k]? =some z) (hv:AH (f z) j=some u):OpQ P n w0 ⟨d,.load t x,ty,pos,after,gu⟩ E H u:=λa w s hs=>by
 rw[rT]at hv;have hj:j<size:=by rw[<-hf.eq z];exact(az.1 hv).1
 have hk:k<l.length:=(az.1 hz).1;obtain⟨g,off,cap,rfl,hc⟩:=(hl.at_ w hs).cell k hk;have hzk:l[k]=z:=by have:=(az.1 hz).2;exact this
 have FV:=hc j u hj (by rw[hzk];exact hv);have hd:=ht.ok;obtain⟨dd,sX⟩:∃dd,P.underlying t=some dd:=by
  exact pao
 rw[sX]at hd;have tJ:(isAgg t).run P w= .ok false w:=by
  exact paH
 simp[execOp,s.ev hx,pX,Instr.loadAt,Instr.sureAddr,loadVar,tJ,add_lit,FV]
theorem ja {t:TypeId} {k:Nat} {z:α} (hx:E.ev x=some (pX v size k 0)) (hl:eX w0 H v α size f l) (ht:mN P t size) (hf:cY f size) (hz:l[k]? =some z):OpQ P n w0 ⟨d,.load t x,ty,pos,after,gu⟩ E H (.agg (f z).toArray):=λa w s hs=>by
 have hk:k<l.length:=(az.1 hz).1;obtain⟨g,off,cap,rfl,hc⟩:=(hl.at_ w hs).cell k hk;have hzk:l[k]=z:=by have:=(az.1 hz).2;exact this
 have Xt:∀j u,(f z)[j]? =some u->w.cell? ((⟨g,off+k*size,none⟩:Addr).add j)=some u:=λj u hu=>by
  rw[add_lit];have:=hc j u (by rw[<-hf.eq z];exact(az.1 hu).1) (by rw[hzk];exact hu);rwa[<-uba]at this
 have hd:=ht.ok;obtain⟨dd,sX⟩:∃dd,P.underlying t=some dd:=by
  exact pao
 rw[sX]at hd;have tJ:(isAgg t).run P w= .ok true w:=by
  exact paI
 obtain⟨i,hi,uZ⟩:=AU.1 ht.size;have Kf:(sizeOf t).run P w= .ok size w:=by simp[sizeOf,typeInfo,hi,uZ]
 have hr:=run_loadCells_list (P:=P) (w:=w) ⟨g,off+k*size,none⟩ (f z) Xt;rw[hf.eq]at hr;simp[execOp,s.ev hx,pX,add_lit,Instr.loadAt,Instr.sureAddr,loadVar,tJ,Kf,hr]
end quiet
theorem nq (w) {g off cap m size e t} {xs vs:List Value} {val:Value} {p} (hs:Sat w0 w (Gs e size (.slice (some ⟨g,off,none⟩) m cap) m xs*F)) (rZ:(P.info? t).map (·.size)=some vs.length) (hv:val.cells=vs.toArray) (h1:∀u∈vs,u.oneCell'=true) (hp:p+vs.length<=m*size) (rX:0<m*size):
 ∃w',(storeVar t ⟨g,off+p,none⟩ val).run P w= .ok () w'/\Sat w0 w' (Gs e size (.slice (some ⟨g,off,none⟩) m cap) m (xs.take p++vs++xs.drop (p+vs.length))*F):=by
 obtain⟨hl,⟨A,ZR,h0,_⟩|⟨g',Pw,Oe,cur,fr,ZR,hn,hm,hc,ht,hf,eI⟩⟩:=hs.jN
 ·subst h0;simp at rX
 ·injection ZR with e1 _ e3
  injection e1 with e1
  injection e1 with e1 e2
  subst e1;subst e2;subst e3
  have hle:m*size<=cap*size:=VB _ hn
  obtain⟨i,hi,uZ⟩:=AU.1 rZ
  have hz:(sizeOf t).run P w= .ok vs.length w:=by simp[sizeOf,typeInfo,hi,uZ]
  have hr:=ig (P:=P) g (off+p) e fr vs 0 cur w eI.at_ (by omega) h1 (λi h1 h2=>hf i (by omega) (by omega))
  refine⟨w.setRow g (cur.toList.take (off+p+0)++vs++cur.toList.drop (off+p+0+vs.length)).toArray,?_,?_⟩
  ·simp only[storeVar,Sem.run_bind,hz,Result.andThen_ok,hv,ZX]
   rw[eQ (by simp)]
   exact hr
  ·have ma:Sat w0 (w.setRow g (cur.toList.take (off+p+0)++vs++cur.toList.drop (off+p+0+vs.length)).toArray) (pM g (.cells (cur.toList.take (off+p+0)++vs++cur.toList.drop (off+p+0+vs.length)).toArray e fr)*F):=
    Sat.put eI rfl rfl rfl (setRow_heap w g cur _ e fr eI.at_) λk _ hk=>setRow_other w g k _ hk
   refine Sat.yc e size m g off cap _ fr _ ma ?_ hn hm ?_ ?_ hf
   ·simp only[pU,Aw,uK,hl];omega
   ·simp only[ZX,pU,Aw,uK,uak];omega
   ·subst ht
    apply zD
    intro j
    simp only[uay,G3,Lf,uaa,pU,Aw,uK,uak]
    have e1:min (off+p) cur.size=off+p:=by omega
    have e2:min p (min (m*size) (cur.size - off))=p:=by omega
    rw[e1,e2]
    by_cases c0:j<m*size
    ·simp only[c0,YZ]
     by_cases c1:j<p
     ·simp[c1,show off+j<off+p+vs.length by omega,show off+j<off+p by omega,show j<p+vs.length by omega]
     ·by_cases c2:j<p+vs.length
      ·simp[c1,c2,show off+j<off+p+vs.length by omega,show off+j - (off+p)=j - p by omega]
      ·simp[c1,c2,show ¬off+j<off+p+vs.length by omega,show ¬off+j<off+p by omega,show off+p+vs.length+(off+j - (off+p+vs.length))=off+j by omega,show p+vs.length+(j - (p+vs.length))=j by omega,c0]
    ·simp only[c0,VC]
     by_cases c2:j<p+vs.length
     ·omega
     ·simp[c2,show ¬j<p by omega,show ¬p+vs.length+(j - (p+vs.length))<m*size by omega]
theorem K3 {A B C:List Value} {m j} (hA:A.length=m) (hj:j<=B.length):(A++(B++C)).take (m+j)=A++B.take j:=by
 subst hA;rw[ua5,uaF hj]
theorem JE {A B C:List Value} {m j} (hA:A.length=m) (hj:j<=B.length):(A++(B++C)).drop (m+j)=B.drop j++C:=by
 subst hA;rw[ua6,uaj hj]
section stores
variable {α:Type} {e:TypeId} {size:Nat} {f:α->List Value} {v:Value} {l:List α} {ty:TypeId} {pos:String} {after:Array Edge} {gu:Option (Nat×Bool)} {x y:Operand}
theorem gV (z':α) {t:TypeId} {k:Nat} {vs:List Value} (hx:E.ev x=some (pX v size k 0)) (hy:E.ev y=some (.agg vs.toArray)) (hz:vs=f z') (hl:dD H v α e size f l F) (ht:mN P t size) (hf:cY f size) (hp:Nat.blt 0 size=true) (h1:vs.all (·.oneCell')=true) (hk:k<l.length):
 cn P n w0 ⟨none,.store t x y,ty,pos,after,gu⟩ E H (λ_:Unit=>undef) (λ_=>rows e size f v (l.set k z')*F):=cn.mk' (pre:=rows e size f v l) (post:=λ_=>rows e size f v (l.set k z')) (λG a w K Q s hs hK=>by
 have qZ:0<size:=by simpa using hp
 obtain⟨g,off,cap,rfl,_⟩:=pP qZ hs hk
 have S5:vs.length=size:=by rw[hz];exact hf.eq z'
 have P6:(k+1)*size<=l.length*size:=VB _ hk
 rw[uar]at P6
 obtain⟨w',hr,eI⟩:=nq (P:=P) (t:=t) (vs:=vs) (val:= .agg vs.toArray) (p:=k*size) w hs (by rw[S5];exact ht.size) rfl (by simpa using h1) (by omega) (by omega)
 have:=hK () w' (eI.cast (by unfold rows;rw[TY,mh f size hf.eq l k z' hk,S5,hz]))
 simp only[Act.put]at this
 simp only[Oper.wp,execOp,s.ev hx,s.ev hy,pX,add_lit,uay,Instr.storeAt,Instr.sureAddr,Sem.run_bind,Sem.run_pure,Result.andThen_ok,hr,Oper.upon_skip]
 exact this) hl.eq
theorem dB (z':α) {t:TypeId} {k j:Nat} {z:α} {u:Value} (hx:E.ev x=some (pX v size k j)) (hy:E.ev y=some u) (hl:dD H v α e size f l F) (ht:fi P t) (hf:cY f size) (h1:u.oneCell'=true) (hz:l[k]? =some z) (pF:iW (f z) j [u]=some (f z')):
 cn P n w0 ⟨none,.store t x y,ty,pos,after,gu⟩ E H (λ_:Unit=>undef) (λ_=>rows e size f v (l.set k z')*F):=cn.mk' (pre:=rows e size f v l) (post:=λ_=>rows e size f v (l.set k z')) (λG a w K Q s hs hK=>by
 obtain⟨hle,X5⟩:=np pF
 have hj:j<size:=by rw[<-hf.eq z];simp at hle;omega
 have hk:k<l.length:=(az.1 hz).1
 have hzk:l[k]=z:=by have:=(az.1 hz).2;exact this
 obtain⟨g,off,cap,rfl,_⟩:=pP (by omega) hs hk
 have P6:(k+1)*size<=l.length*size:=VB _ hk
 rw[uar]at P6
 obtain⟨w',hr,eI⟩:=nq (P:=P) (t:=t) (vs:=[u]) (val:=u) (p:=k*size+j) w hs ht.size (cells_one h1) (by simpa using h1) (by simp;omega) (by omega)
 have tM:(l.flatMap f).take (k*size+j)++[u]++(l.flatMap f).drop (k*size+j+1)=(l.set k z').flatMap f:=by
  rw[mh f size hf.eq l k z' hk,X5];have hlen:=bZ f size hf.eq l;have Rr:l.set k z=l:=by rw[<-hzk];exact ucn hk
  have hX:=mh f size hf.eq l k z hk;rw[Rr]at hX;have hA:((l.flatMap f).take (k*size)).length=k*size:=by rw[Aw,hlen];omega
  have XD:=hf.eq z;generalize (l.flatMap f).take (k*size)=A at*
  generalize (l.flatMap f).drop (k*size+size)=C at*
  have Xo:l.flatMap f=A++(f z++C):=by rw[hX,EK]
  have Rb:j+1<=(f z).length:=by omega
  have e1:=K3 (C:=C) hA (show j<=(f z).length by omega);have e2:=JE (C:=C) hA Rb;rw[Xo,e1,show k*size+j+1=k*size+(j+1) by omega,e2];simp
 have:=hK () w' (eI.cast (by
  unfold rows
  rw[TY,<-tM]
  simp))
 simp only[Act.put]at this
 simp only[Oper.wp,execOp,s.ev hx,s.ev hy,pX,add_lit,Instr.storeAt,Instr.sureAddr,Sem.run_bind,Sem.run_pure,Result.andThen_ok,hr,Oper.upon_skip]
 exact this) hl.eq
end stores
theorem fJ {H H':af} (e:aq H H') (h:LS P n w0 ops Q l' ⟨E,D,H'⟩):LS P n w0 ops Q l' ⟨E,D,H⟩:=λa w g=>h a w ⟨g.dQ,g.defers,e.sat g.sat⟩
theorem cV {c:Code} {H H':af} (e:aq H H') (h:WS P n w0 c Q ⟨E,D,H'⟩):WS P n w0 c Q ⟨E,D,H⟩:=λa w g=>h a w ⟨g.dQ,g.defers,e.sat g.sat⟩
theorem aq.nil {α} (H e size) (f:α->List Value) (A):aq H (rows e size f (.slice A 0 0) []*H):=λh hh=>
 ⟨h,⟨λ_=>none,h,λ_=> .inl rfl,(Part.join_none λ_=>rfl).symm,⟨by simp,.inl ⟨A,rfl,rfl,λ_=>rfl⟩⟩,hh⟩,λ_ _ e=>e⟩
end
section
open Go.RowKit
variable {P:Program} {n:fT} {w0:World} {E:Env} {D:List Deferred} {H F F2 R:af} {ops:Array Oper} {l':List Oper} {Q:Exit->St->Prop} {w:World}
def Od (size:Nat):List Value->List (Nat×Value)->Option (List Value)
 |cs,[]=>some cs
 |cs,(i,v)::r=>bif Nat.beq (jn v).length size then match iW cs (i*size) (jn v)with
  |some nv=>Od size nv r
  |none=>none
  else none
theorem AB (size:Nat):∀(parts:List (Nat×Value)) (cs r:List Value),Od size cs parts=some r->Instr.fill (λi=>some (i*size,size)) cs.toArray parts=some r.toArray
 |[],cs,r,h=>by cases h;rfl
 |(i,v)::parts,cs,r,h=>by
  simp only[Od]at h;cases hs:Nat.beq (jn v).length size with
  |false=>rw[hs]at h;cases h
  |true=>
   rw[hs]at h;simp only[Zo]at h;cases hq:iW cs (i*size) (jn v)with
   |none=>rw[hq]at h;cases h
   |some nv=>
    rw[hq]at h;simp only at h;obtain⟨hle,zm⟩:=np hq;have rZ:v.cells.size=size:=by rw[gX];simpa using uaz hs
    have JU:((v.cells.zipIdx).foldl (λcs (c,j)=>cs.setIfInBounds (i*size+j) c) cs.toArray)=nv.toArray:=by
     apply ubw;have:=foldl_set (jn v) 0 (i*size) cs.toArray (by simpa using hle);rw[<-Array.foldl_toList];simp only[gX];simpa [zm]using this
    unfold Instr.fill;simp only;rw[eQ (by
     rw[gX]at rZ ⊢
     simp only[ZX]at rZ ⊢
     simp[rZ];omega),JU]
    exact AB size parts nv r h
theorem pf (zs:List Value):∀k,(j4 zs k).length=k*zs.length
 |0=>by simp[j4]
 |k+1=>by simp[j4,pf zs k,uar];omega
theorem yk (zs:List Value):∀(k i:Nat),i<k*zs.length->(j4 zs k)[i]? =zs[i % zs.length]?
 |0,i,h=>by simp at h
 |k+1,i,h=>by
  simp only[j4];rw[uaa];split
  ·rename_i hi;rw[YJ hi]
  ·rename_i hi;have rX:0<zs.length:=by
    rcases uap zs.length with h0|h0
    ·rw[h0]at h;simp at h
    ·exact h0
   rw[yk zs k (i - zs.length) (by rw[uar]at h;omega)];congr 1;exact(Nat.mod_eq_sub_mod (by omega)).symm
section lit
variable {d:Option Tmp} {ty:TypeId} {pos:String} {after:Array Edge} {gu:Option (Nat×Bool)}
theorem rl {t e:TypeId} {len size:Nat} {parts:List (Nat×Operand)} {vs:List (Nat×Value)} {z:Value} {zs cs:List Value} (ht:eN P t (.slice e)) (hz:Zero P e z zs) (hs:GL P e size) (hl:Nat.beq zs.length size=true) (Ru:Nat.ble (len*size) 16777216=true) (rX:Nat.blt 0 (len*size)=true) (hv:E.kh parts=some vs) (hb:Od size (j4 zs len) vs=some cs):
 cn P n w0 ⟨d,.buildSlice t len parts.toArray,ty,pos,after,gu⟩ E H (λg=> .slice (some ⟨g,0,none⟩) len len) (λg=>aK g e cs*H):=Fy λa w s=>by
 obtain⟨ie,Lp,XL⟩:=AU.1 hz.eq
 obtain⟨Zm,Q6,Nf⟩:=AU.1 hs.eq
 rw[Lp]at Q6;cases Q6
 have ON:zs.length=size:=uaz hl
 have Yc:len*size<=16777216:=Yu Ru
 have Nk:0<len*size:=by simpa using rX
 have e1:=s.kh hv
 have e2:(parts.toArray.map fun(i,x)=>(i,a.eval x)).toList=vs:=by simpa using e1
 have TV:((Array.range (len*size)).map (z.cells[· % z.cells.size]!))=(j4 zs len).toArray:=by
  apply ubw;apply zD;intro i;have hc:z.cells=zs.toArray:=by rw[gX,hz.cells]
  rw[hc];by_cases hi:i<len*size
  ·rw[ubl,yk zs len i (by rw[ON];exact hi)];have hm:i % zs.length<zs.length:=ubT _ (by
    rcases uap zs.length with h0|h0
    ·rw[ON]at h0;rw[h0]at Nk;simp at Nk
    ·exact h0)
   simp[hi,hm]
  ·rw[EJ (by simpa using hi),EJ (by rw[ubl,pf,ON];omega)]
 have h:=run_buildSlice (P:=P) w t e len (parts.toArray.map fun(i,x)=>(i,a.eval x)) cs.toArray ie z ht.eq Lp XL (by rw[Nf];omega) (by rw[Nf];omega) (by
  rw[Nf,e2,TV];exact AB size vs _ _ hb)
 simp only[execOp,Sem.run_bind,h,Result.andThen_ok,Sem.run_pure]
theorem yq {t e:TypeId} {size:Nat} (ht:eN P t (.slice e)) (hs:GL P e size):
 cn P n w0 ⟨d,.buildSlice t 0 #[],ty,pos,after,gu⟩ E H (λg=> .slice (some ⟨g,0,none⟩) 0 0) (λg=>aK g e []*H):=Fy λa w s=>by
 obtain⟨ie,Lp,Nf⟩:=AU.1 hs.eq
 simp[execOp,Instr.buildSlice,run_underlying ht.eq,sizeOf,typeInfo,Lp,newRow,Instr.fill]
 exact G2 (λc=>w.alloc (Obj.cells c e)) (by apply ubw;simp)
end lit
theorem aq.Dc {α} (l:List α) {g e size m f cs} [hf:cY f size] (hc:cs=l.flatMap f) (hm:l.length=m) (Hk:m<=1000000):aq (aK g e cs*F) (rows e size f (.slice (some ⟨g,0,none⟩) m m) l*F):=λh hh=>by
 refine⟨h,?_,λ_ _ e=>e⟩;obtain⟨a,b,hd,he,hp,hq⟩:=hh;refine⟨a,b,hd,he,⟨by rw[bZ f size hf.eq],.inr ⟨g,0,m,cs.toArray,(0,0),?_,by omega,by simp only[maxLen];omega,?_,?_,λi _ _=>by simp,hp⟩⟩,hq⟩
 ·rw[hm]
 ·simp[hc,bZ f size hf.eq,hm]
 ·simp only[ua0];rw[hc,<-bZ f size hf.eq,PE]
section append
variable {α:Type} {e:TypeId} {size bytes:Nat} {f:α->List Value} {v u:Value} {l:List α} {d:Option Tmp} {ty:TypeId} {pos:String} {after:Array Edge} {gu:Option (Nat×Bool)} {x y:Operand} {t t2:TypeId}
theorem rr (ys:List α) (X:af) (hx:E.ev x=some v) (hy:E.ev y=some u) (hT:yt P t e size bytes) (h2:P.underlying t2=some (.slice e)\/P.underlying t2=some .string) (hf:cY f size) (h1:∀z,∀c∈f z,c.oneCell'=true)
 (O3:∀w G,Sat w0 w (rows e size f v l*(X*G))->Src P w size ys.length u (ys.flatMap f)) (hn:l.length+ys.length<=1000000) (uX:bytes<=1000):
 y6 P n w0 ⟨d,.call ⟨.builtin .append,#[x,y],#[t,t2]⟩,ty,pos,after,gu⟩ E (rows e size f v l*X) (λv':Value=>v') (λv'=>rows e size f v' (l++ys)*X):=λG a w K Q s hs hK=>by
 rw[ad]at hs
 refine sV hT h2 x y rfl hs (s.ev hx) (s.ev hy) (O3 w G hs) (λc hc=> ?_) (by simp only[maxLen];omega) ?_ λv' w' eI=>hK v' w' ?_
 ·obtain⟨z,_,hz⟩:=ucc.1 hc;exact h1 z c hz
 ·have:(l.length+ys.length)*bytes<=1000000*1000:=ucs hn uX
  omega
 ·rw[ad]
  unfold rows
  rw[pU,uaW]
  exact eI
theorem uN {w α size f u} {ys:List α} (h:ix w size f u ys) (hf:∀x,(f x).length=size):Src P w size ys.length u (ys.flatMap f):=by
 obtain⟨A,c,rfl,_⟩:=h.form;by_cases hy:ys=[]
 ·subst hy;exact Src.nothing size c A
 ·obtain⟨g,off,cap,hv2,_⟩:=h.cell 0 (uaX.2 hy);injection hv2 with e1 e2 e3
  subst e1;refine Src.slice size ys.length c _ _ (bZ f size hf ys) λj u hu=> ?_;rw[add_lit];have hj:=(az.1 hu).1;rw[bZ f size hf]at hj;have rX:0<size:=by
   rcases uap size with h0|h0
   ·rw[h0]at hj;simp at hj
   ·exact h0
  have hk:j / size<ys.length:=Nat.div_lt_of_lt_mul (by rw[Nat.mul_comm];exact hj);obtain⟨g',Pw,Oe,ID,hc⟩:=h.cell (j / size) hk;injection ID with e1
  injection e1 with e1
  injection e1 with e1 e2
  subst e1;subst e2;have V2:j / size*size+j % size=j:=Nat.div_add_mod' j size;have:=hc (j % size) u (ubT _ rX) (by
   rw[<-nN f size hf ys (j / size) (j % size) ys[j / size] (by simp) (ubT _ rX),V2];exact hu)
  rwa[V2]at this
theorem GF {ys:List α} (X:af) {f':α->List Value} (hx:E.ev x=some v) (hy:E.ev y=some u) (hl:dD H v α e size f l F) (hX:eX w0 X u α size f' ys) (hF:F=X*F2) (Hj:f'=f) (hT:lj P t e size bytes) (hf:cY f size) (h1:∀z,∀c∈f z,c.oneCell'=true) (hn:l.length+ys.length<=1000000) (uX:Nat.ble bytes 1000=true):
 cn P n w0 ⟨d,.call ⟨.builtin .append,#[x,y],#[t,t]⟩,ty,pos,after,gu⟩ E H (λv':Value=>v') (λv'=>rows e size f v' (l++ys)*(X*F2)):=by
 subst Hj
 refine⟨rows e size f' v l*X,λv'=>rows e size f' v' (l++ys)*X,F2,?_,by rw[hl.eq,hF,ad],λ_=>by rw[ad]⟩
 exact rr ys X hx hy hT.out (.inl hT.out.ht) hf h1 (λw G hs=>uN (hX.at_ w hs.p2.Cq) hf.eq) hn (Yu uX)
theorem aR {ys:List α} (hx:E.ev x=some v) (hy:E.ev y=some u) (hl:dD H v α e size f l F) {f':α->List Value} (yz:dD F u α e size f' ys F2) (Hj:f'=f) (hT:lj P t e size bytes) (hf:cY f size) (h1:∀z,∀c∈f z,c.oneCell'=true) (hn:l.length+ys.length<=1000000) (uX:Nat.ble bytes 1000=true):
 cn P n w0 ⟨d,.call ⟨.builtin .append,#[x,y],#[t,t]⟩,ty,pos,after,gu⟩ E H (λv':Value=>v') (λv'=>rows e size f v' (l++ys)*(rows e size f u ys*F2)):=by
 subst Hj
 refine⟨rows e size f' v l*rows e size f' u ys,λv'=>rows e size f' v' (l++ys)*rows e size f' u ys,F2,?_,by rw[hl.eq,yz.eq,ad],λ_=>by rw[ad]⟩
 exact rr ys _ hx hy hT.out (.inl hT.out.ht) hf h1 (λw G hs=>Src.own hs.p2) hn (Yu uX)
end append
def bU (b:UInt8):List Value:=[u8 b]
instance:cY bU 1:=⟨λ_=>rfl⟩
theorem mS:∀z,∀c∈bU z,c.oneCell'=true:=by intro z c hc;simp[bU]at hc;subst hc;rfl
theorem qy (l:List UInt8):l.flatMap bU=K8 l:=by
 induction l with
 |nil=>rfl
 |cons b l ih=>rw[RM,ih];rfl
section bytes
variable {v u:Value} {l:List UInt8} {d:Option Tmp} {ty:TypeId} {pos:String} {after:Array Edge} {gu:Option (Nat×Bool)} {x y:Operand} {t t2 e src dst:TypeId} {f:UInt8->List Value} {size:Nat}
theorem GD {ys:List UInt8} {bytes:Nat} (hx:E.ev x=some v) (hy:E.ev y=some (aZ ys)) (hl:dD H v UInt8 e 1 f l F) (Oz:f=bU) (hT:lj P t e 1 bytes) (h2:eN P t2 .string) (hn:l.length+ys.length<=1000000) (uX:Nat.ble bytes 1000=true):
 cn P n w0 ⟨d,.call ⟨.builtin .append,#[x,y],#[t,t2]⟩,ty,pos,after,gu⟩ E H (λv':Value=>v') (λv'=>rows e 1 f v' (l++ys)*F):=by
 subst Oz
 refine⟨rows e 1 bU v l*emp,λv'=>rows e 1 bU v' (l++ys)*emp,F,?_,by rw[hl.eq,b5],λ_=>by dsimp only;rw[b5]⟩
 refine rr ys emp hx hy hT.out (.inr h2.eq) iI mS (λw G hs=> ?_) hn (Yu uX)
 have:=Src.string (P:=P) (w:=w) ⟨ys.toArray⟩
 rw[qy]
 exact this
theorem D1 {w:World} (A:Option Addr) (cap:Nat) (g off:Nat) (xs:List UInt8) (hs:eN P src (.slice e)) (he:eN P e (.int .u8)) (hd:eN P dst .string) (hA:xs≠[]->A=some ⟨g,off,none⟩) (hc:∀j u,(K8 xs)[j]? =some u->w.cell? ⟨g,off+j,none⟩=some u):
 (convert src dst (.slice A xs.length cap)).run P w= .ok (aZ xs) w:=by
 have key:(loadCells ⟨g,off,none⟩ xs.length).run P w= .ok (K8 xs).toArray w:=by
  have:=run_loadCells_list (P:=P) (w:=w) ⟨g,off,none⟩ (K8 xs) (λj v hj=>by rw[add_lit];exact hc j v hj);rwa[qU]at this
 by_cases hx:xs=[]
 ·subst hx
  show(convert src dst (.slice A 0 cap)).run P w=_
  rw[run_convert_bytes_string w src dst e A 0 cap hs.eq he.eq hd.eq]
  cases A with
  |none=>simp[Conv.bytesToString];rfl
  |some a=>simp[Conv.bytesToString,loadCells,loadCellsFrom];rfl
 ·rw[hA hx,run_convert_bytes_string w src dst e _ _ cap hs.eq he.eq hd.eq,run_bytesToString w _ xs.length cap (xs.map λb=>(b.toNat:Int)) (by rw[key];simp[K8,u8,uby]),foldl_push_byteCells]
  have he:(⟨ByteArray.empty.data++xs.toArray⟩:ByteArray)=⟨xs.toArray⟩:=by apply ubP;simp
  rw[he]
theorem ix.bytes {w:World} {v} {l:List UInt8} (h:ix w 1 bU v l):∃A c g off,v= .slice A l.length c/\(l≠[]->A=some ⟨g,off,none⟩)/\∀j u,(K8 l)[j]? =some u->w.cell? ⟨g,off+j,none⟩=some u:=by
 obtain⟨A,c,hv,_⟩:=h.form;by_cases hl:l=[]
 ·exact⟨A,c,0,0,hv,λh=>absurd hl h,by subst hl;simp[K8]⟩
 ·obtain⟨g,off,cap,hv2,_⟩:=h.cell 0 (uaX.2 hl);refine⟨A,c,g,off,hv,λ_=>by rw[hv]at hv2;injection hv2,λj u hu=> ?_⟩;have hj:j<l.length:=by have:=(az.1 hu).1;rwa[qU]at this
  obtain⟨g',Pw,Oe,ID,hc⟩:=h.cell j hj;rw[hv2]at ID;injection ID with e1
  injection e1 with e1
  injection e1 with e1 e2
  subst e1;subst e2;have:=hc 0 u (by omega) (by simp[bU];simpa [K8,hj]using hu);simpa using this
theorem kY (hx:E.ev x=some v) (hl:eX w0 H v UInt8 1 f l) (Oz:f=bU) (hs:eN P src (.slice e)) (he:eN P e (.int .u8)) (hd:eN P dst .string):OpQ P n w0 ⟨d,.convert src dst x,ty,pos,after,gu⟩ E H (aZ l):=λa w s eI=>by
 subst Oz;obtain⟨A,c,g,off,rfl,hA,hc⟩:=(hl.at_ w eI).bytes;have hr:(convert src dst (.slice A l.length c)).run P w= .ok (aZ l) w:=D1 A c g off l hs he hd hA hc;simp only[execOp,s.ev hx,Sem.run_bind,hr,Result.andThen_ok,Sem.run_pure]
theorem Fx {e':TypeId} (hx:E.ev x=some v) (hl:dD H v UInt8 e' 1 f l F) (Oz:f=bU) (hs:eN P src (.slice e)) (he:eN P e (.int .u8)) (hd:eN P dst .string):cn P n w0 ⟨d,.convert src dst x,ty,pos,after,gu⟩ E H (λ_:Unit=>aZ l) (λ_=>rows e' 1 f v l*F):=by
 refine cn.mk' (pre:=rows e' 1 f v l) (post:=λ_=>rows e' 1 f v l) (λG a w K Q s eI hK=> ?_) hl.eq;subst Oz;have h:=kY (P:=P) (n:=n) (w0:=w0) (E:=E) (H:=rows e' 1 bU v l*G) (d:=d) (ty:=ty) (pos:=pos) (after:=after) (gu:=gu) (src:=src) (dst:=dst) hx iI rfl hs he hd a w s eI;unfold Oper.wp;rw[h];exact hK () w eI
theorem vB (hx:E.ev x=some (aZ l)) (hs:eN P src .string) (hd:eN P dst (.slice e)) (he:eN P e (.int .u8)) (hn:l.length<=1000000):cn P n w0 ⟨d,.convert src dst x,ty,pos,after,gu⟩ E H (λv':Value=>v') (λv'=>rows e 1 bU v' l*H):=by
 refine cn.mk' (pre:=emp) (post:=λv'=>rows e 1 bU v' l) ?_ aB.symm;intro G a w K Q s eI hK;rw[aB]at eI;have hr:=run_bytes_of_string (P:=P) w src dst e ⟨l.toArray⟩ hs.eq hd.eq he.eq;have rZ:(⟨l.toArray⟩:ByteArray).size=l.length:=rfl;have kQ:=grownCap_ge w (⟨l.toArray⟩:ByteArray).size 0 e;have hle:=grownCap_le_maxLen w (⟨l.toArray⟩:ByteArray).size 0 e (by rw[rZ];simp only[maxLen];omega);rw[rZ]at hr kQ hle;simp only[Oper.wp,execOp,s.ev hx,Sem.run_bind,hr,Result.andThen_ok,Sem.run_pure,Oper.upon_value];refine hK _ _ ?_;have h1:=(eI.drew.alloc (.cells (bytesRow ⟨l.toArray⟩ (grownCap w l.length 0 e)) e ((bytesRow ⟨l.toArray⟩ (grownCap w l.length 0 e)).size,(bytesRow ⟨l.toArray⟩ (grownCap w l.length 0 e)).size+1)))
 have QQ:(bytesRow ⟨l.toArray⟩ (grownCap w l.length 0 e)).size=grownCap w l.length 0 e:=by simp[bytesRow];omega
 refine Sat.yc e 1 l.length w.heap.size 0 _ (bytesRow ⟨l.toArray⟩ (grownCap w l.length 0 e)) _ _ h1 ?_ kQ hle ?_ ?_ ?_
 ·rw[qy,qU];simp
 ·rw[QQ];simp
 ·rw[qy];simp[bytesRow,K8,u8,uaF]
 ·intro i h1 h2;rw[QQ];simp;omega
theorem kP {a b:List UInt8} (hx:E.ev x=some (aZ a)) (hy:E.ev y=some (aZ b)) (hn:a.length+b.length<=9223372036854775807):OpQ P n w0 ⟨d,.binOp .add t x y t2,ty,pos,after,gu⟩ E H (aZ (a++b)):=λac w s hs=>by
 have rZ:((⟨a.toArray⟩:ByteArray).size+(⟨b.toArray⟩:ByteArray).size:Nat)=a.length+b.length:=rfl;have Lk:(⟨a.toArray⟩:ByteArray)++⟨b.toArray⟩=⟨(a++b).toArray⟩:=by apply ubP;simp
 have hg:¬(((⟨a.toArray⟩:ByteArray).size+(⟨b.toArray⟩:ByteArray).size:Nat):Int)>IntKind.i64.max:=by rw[rZ];simp[IntKind.max,IntKind.signed,IntKind.bits];omega
 simp only[execOp,s.ev hx,s.ev hy,eqGuard,binOp,Op.stringOp];rw[eQ hg,Lk];rfl
theorem zba {a:List UInt8} {q:IntKind} {i:Int} {k:Nat} (hx:E.ev x=some (aZ a)) (hy:E.ev y=some (.int q i)) (hi:fB i k) (ht:eN P t .string) (hk:k<=a.length):OpQ P n w0 ⟨d,.slice t x none (some y) none,ty,pos,after,gu⟩ E H (aZ (a.take k)):=λac w s hs=>by
 obtain rfl:=hi.eq;have hr:=run_slice_string_h (P:=P) w t ⟨a.toArray⟩ ht.eq q (k:Int) (by omega) (by show(k:Int)<=(a.length:Nat);omega);have e1:(⟨a.toArray⟩:ByteArray).extract 0 k=⟨(a.take k).toArray⟩:=by apply ubP;simp
 exact pbb
theorem dC {a:List UInt8} {q:IntKind} {i:Int} {k:Nat} (hx:E.ev x=some (aZ a)) (hy:E.ev y=some (.int q i)) (hi:fB i k) (ht:eN P t .string) (hk:k<=a.length):OpQ P n w0 ⟨d,.slice t x (some y) none none,ty,pos,after,gu⟩ E H (aZ (a.drop k)):=λac w s hs=>by
 obtain rfl:=hi.eq;have hr:=run_slice_string_l (P:=P) w t ⟨a.toArray⟩ ht.eq q (k:Int) (by omega) (by show(k:Int)<=(a.length:Nat);omega);have e1:(⟨a.toArray⟩:ByteArray).extract k (⟨a.toArray⟩:ByteArray).size=⟨(a.drop k).toArray⟩:=by apply ubP;simp[ByteArray.size];exact Gz (by simp)
 exact pbb
theorem eH {a:List UInt8} {q:IntKind} {i:Int} {k:Nat} {b:UInt8} (hx:E.ev x=some (aZ a)) (hy:E.ev y=some (.int q i)) (hi:fB i k) (ht:eN P t .string) (hb:a[k]? =some b):OpQ P n w0 ⟨d,.index t x y,ty,pos,after,gu⟩ E H (u8 b):=λac w s hs=>by
 obtain rfl:=hi.eq;have hk:k<a.length:=(az.1 hb).1;have hr:=run_index_string (P:=P) w t ⟨a.toArray⟩ q (k:Int) ht.eq;have QV:(0:Int)<=(k:Int)/\(k:Int)<((⟨a.toArray⟩:ByteArray).size:Nat):=⟨by omega,by show(k:Int)<(a.length:Nat);omega⟩
 rw[dif_pos QV]at hr;have Xs:(⟨a.toArray⟩:ByteArray)[((k:Int)).toNat]'(by rw[D3];exact hk)=b:=by
  rw[<-(az.1 hb).2];rfl
 rw[Xs]at hr;simp only[execOp,s.ev hx,s.ev hy,Sem.run_bind,hr,Result.andThen_ok,Sem.run_pure];rfl
theorem oF {t:TypeId} {k:Nat} {b:UInt8} (hx:E.ev x=some (pX v 1 k 0)) (hy:E.ev y=some u) (hb:tc u b) (hl:dD H v UInt8 e 1 f l F) (Oz:f=bU) (ht:fi P t) (hk:k<l.length):
 cn P n w0 ⟨none,.store t x y,ty,pos,after,gu⟩ E H (λ_:Unit=>undef) (λ_=>rows e 1 f v (l.set k b)*F):=by
 subst Oz
 obtain rfl:=hb.eq
 exact dB (z:=l[k]) b hx hy hl ht iI rfl (by simp) rfl
def b8 (m:Int):UInt8:=UInt8.ofNat (m % 256).toNat
theorem Aa {m:Int} {k:IntKind} {ds:TypeDesc} (hx:E.ev x=some (.int k m)) (hs:eN P src ds) (hd:eN P dst (.int .u8)):OpQ P n w0 ⟨d,.convert src dst x,ty,pos,after,gu⟩ E H (u8 (b8 m)):=
 kX hx hs hd (by
  rw[wrap_u8]
  have h0:=Int.emod_nonneg m (show(256:Int)≠0 by omega)
  have h1:=Int.emod_lt_of_pos m (show(0:Int)<256 by omega)
  simp only[b8,uaB]
  omega)
theorem fu {b:UInt8} (hx:E.ev x=some (u8 b)) {ds:TypeDesc} (hs:eN P src ds) (hd:eN P dst (.int .i64)):OpQ P n w0 ⟨d,.convert src dst x,ty,pos,after,gu⟩ E H (.int .i64 (b.toNat:Int)):=
 kX hx hs hd (by have:=b.toNat_lt;exact IntWalk.i64_in _ (by omega))
theorem po {b:UInt8} (hx:E.ev x=some (u8 b)) {ds:TypeDesc} (hs:eN P src ds) (hd:eN P dst (.int .u32)):OpQ P n w0 ⟨d,.convert src dst x,ty,pos,after,gu⟩ E H (u32 b.toUInt32):=
 kX hx hs hd (by have:=b.toNat_lt;rw[wrap_u32];simp;omega)
theorem I0 {t et:TypeId} {len:Nat} {cs:List Value} {q:IntKind} {i:Int} {k:Nat} {val:Value} (hx:E.ev x=some (.agg cs.toArray)) (hy:E.ev y=some (.int q i)) (hi:fB i k) (ht:eN P t (.array len et)) (hs:fi P et) (hk:k<len) (hv:cs[k]? =some val):OpQ P n w0 ⟨d,.index t x y,ty,pos,after,gu⟩ E H val:=λa w s eI=>by
 obtain rfl:=hi.eq;have hd:=hs.ok;obtain⟨dd,sX⟩:∃dd,P.underlying et=some dd:=by
  cases hu:P.underlying et with
  |none=>rw[hu]at hd;cases hd
  |some dd=>exact⟨dd,rfl⟩
 rw[sX]at hd;have tJ:(isAgg et).run P w= .ok false w:=by
  exact paH
 obtain⟨ie,Lp,Nf⟩:=AU.1 hs.size;have vS:(k:Int)<(len:Int):=by omega
 simp[execOp,s.ev hx,s.ev hy,Instr.index,asIntOf,run_underlying ht.eq,vS,hk,Nat.not_le.2 hk,part,tJ,sizeOf,typeInfo,Lp,Nf,hv]
end bytes
instance W1 {t:TypeId} {a b:List UInt8}:dL P .eql t (aZ a) (aZ b) (.bool (decide (a=b))):=⟨λw=>by
 have:decide (a=b)=((⟨a.toArray⟩:ByteArray).toList==(⟨b.toArray⟩:ByteArray).toList):=by rw[ByteArray.toList_mk,ByteArray.toList_mk,YX];simp
 rw[this];rfl,λw _ _=>rfl⟩
instance YC {t:TypeId} {a b:List UInt8}:dL P .neq t (aZ a) (aZ b) (.bool (!decide (a=b))):=⟨λw=>by
 have:decide (a=b)=((⟨a.toArray⟩:ByteArray).toList==(⟨b.toArray⟩:ByteArray).toList):=by rw[ByteArray.toList_mk,ByteArray.toList_mk,YX];simp
 rw[this];rfl,λw _ _=>rfl⟩
end
end Go.Proofs.YtapoehkdnglahabGreat

/- A part of what Nodes needs. -/
import Derived.Test.YtapoehkdnglahabGreatNodesGf
set_option maxHeartbeats 8000000
set_option maxRecDepth 100000
set_option linter.unusedVariables false
set_option linter.unusedSimpArgs false
set_option linter.unusedSectionVars false
namespace Go.Proofs.YtapoehkdnglahabGreat
section
def dZ (l:List UInt8):Nat→List (UInt32×UInt32)
 |0=>[]
 |n+1=>dZ l n++[(bm l (8*n),bm l (8*n+4))]
theorem jZ (l:List UInt8) (n:Nat):(dZ l n).length=n:=by
 induction n with
 |zero=>rfl
 |succ n ih=>simp[dZ,ih]
def Pk.body (bK kind:UInt8) (flag n:UInt8) (l:List UInt8):Option Pk:=
 if kind=1 then
  if l.length=20∧(flag=0∨(flag=8∧bm l 8=0))then some ⟨bK.toNat,1,n.toNat,decide (flag=8),bm l 0,bm l 4,bm l 8,bm l 12,bm l 16,0,[],[]⟩else none
 else if kind=2 then
  if l.length=16∧flag=0 then some ⟨bK.toNat,2,n.toNat,false,0,bm l 0,bm l 4,bm l 8,0,bm l 12,[],[]⟩else none
 else if kind=3 then
  if 1≤n.toNat∧n.toNat≤8∧l.length=8*n.toNat∧flag=0 then some ⟨bK.toNat,3,0,false,0,0,0,0,0,0,dZ l n.toNat,[]⟩else none
 else if kind=9 then
  if n.toNat≤16∧l.length=12+n.toNat∧flag=0 then some ⟨bK.toNat,9,0,false,bm l 0,bm l 4,0,bm l 8,0,0,[],l.drop 12⟩else none
 else none
def Pk.dec:List UInt8→Option Pk
 |t::k::f::z::n::l=>if z=0∧t≠0 then Pk.body t k f n l else none
 |_=>none
theorem tX (k:UInt32) (pre post:List UInt8) (n:Nat) (hn:n=pre.length):bm (pre++(be k++post)) n=k:=by
 subst hn
 have e:∀j,dW (pre++(be k++post)) (pre.length+j)=dW (be k++post) j:=fun j=>by
  rw[dW,List.getElem?_append_right (by omega),Nat.add_sub_cancel_left];rfl
 have e0:=e 0
 rw[Nat.add_zero]at e0
 rw[bm,e0,e 1,e 2,e 3]
 exact Pv k
theorem FJ (m:Int) (h0:0≤m) (h:m≤255):((b8 m).toNat:Int)=m:=by
 unfold b8;simp;omega
theorem wL (l:List UInt8) (i:Nat) (h:i+4≤l.length):be (bm l i)=(l.drop i).take 4:=by
 rw[bm,Ob]
 apply List.ext_getElem?
 intro j
 rw[List.getElem?_take,List.getElem?_drop]
 have g:∀k,i+k<l.length→l[i+k]? =some (dW l (i+k)):=fun k hk=>by simp[dW,hk]
 match j with
 |0=>simpa using(g 0 (by omega)).symm
 |1=>simpa using(g 1 (by omega)).symm
 |2=>simpa using(g 2 (by omega)).symm
 |3=>simpa using(g 3 (by omega)).symm
 |j+4=>simp;omega
theorem AN (a b:List (UInt32×UInt32)):gi (a++b)=gi a++gi b:=by simp[gi]
theorem qj (l:List UInt8):∀n,8*n≤l.length→gi (dZ l n)=l.take (8*n)
 |0,_=>by simp[dZ,gi]
 |n+1,h=>by
  rw[dZ,AN,qj l n (by omega)]
  have e:gi [(bm l (8*n),bm l (8*n+4))]=(l.drop (8*n)).take 8:=by
   simp only[gi,List.flatMap_cons,List.flatMap_nil,List.append_nil]
   rw[wL l _ (by omega),wL l _ (by omega),←List.drop_drop]
   exact(List.take_add (i:=4) (j:=4)).symm
  rw[e,show 8*(n+1)=8*n+8 by omega]
  exact(List.take_add (i:=8*n) (j:=8)).symm
theorem qk:∀(x:List (UInt32×UInt32)) (post:List UInt8) (n:Nat),n≤x.length→dZ (gi x++post) n=x.take n
 |x,post,0,_=>by simp[dZ]
 |x,post,n+1,h=>by
  rw[dZ,qk x post n (by omega),List.take_add_one]
  obtain⟨z,hz⟩:∃z,x[n]? =some z:=⟨_,List.getElem?_eq_getElem (by omega)⟩
  have hx:gi x=gi (x.take n)++(be z.1++(be z.2++gi (x.drop (n+1)))):=by
   have h1:x=x.take n++(z::x.drop (n+1)):=by
    have:=(List.getElem?_eq_some_iff.1 hz).2
    rw[←this,List.getElem_cons_drop,List.take_append_drop]
   conv=>lhs;rw[h1]
   simp[gi]
  have hl:=jY (x.take n)
  have hn:(x.take n).length=n:=by simp;omega
  rw[hn]at hl
  have e1:bm (gi x++post) (8*n)=z.1:=by
   rw[hx,List.append_assoc,List.append_assoc]
   exact tX _ _ _ _ hl.symm
  have e2:bm (gi x++post) (8*n+4)=z.2:=by
   have:gi x++post=(gi (x.take n)++be z.1)++(be z.2++(gi (x.drop (n+1))++post)):=by rw[hx];simp
   rw[this]
   exact tX _ _ _ _ (by simp[hl,al])
  rw[e1,e2,hz];rfl
theorem EX (ks:List UInt32) (post:List UInt8) (i:Nat) (k:UInt32) (h:ks[i]? =some k):bm (fA ks++post) (4*i)=k:=by
 have hx:fA ks++post=fA (ks.take i)++(be k++(fA (ks.drop (i+1))++post)):=by
  have h1:ks=ks.take i++(k::ks.drop (i+1)):=by
   have hi:=(List.getElem?_eq_some_iff.1 h).1
   have:=(List.getElem?_eq_some_iff.1 h).2
   rw[←this,List.getElem_cons_drop,List.take_append_drop]
  conv=>lhs;rw[h1]
  simp[fA]
 have hl:∀l:List UInt32,(fA l).length=4*l.length:=by
  intro l;induction l with
  |nil=>rfl
  |cons a l ih=>simp[fA,al]at ih ⊢;omega
 rw[hx]
 exact tX _ _ _ _ (by rw[hl,List.length_take];have:=(List.getElem?_eq_some_iff.1 h).1;omega)
theorem Pk.G9 {p:Pk} (h:p.Fits):Pk.dec p.bytes=some p:=by
 obtain⟨bK,kind,aH,unknown,id,dest,ak,from_,av,bD,lost,ar⟩:=p
 obtain⟨⟨t1,t2,h1,h2,h3,h4⟩,hk⟩:=h
 dsimp only at t1 t2 h1 h2 h3 h4 hk
 have e1:=FJ bK (by omega) t2
 have e2:=FJ aH h1 h2
 have e3:b8 bK≠0:=by intro e;rw[e]at e1;simp at e1;omega
 rcases hk with ⟨rfl,rfl,hl,rfl,hu⟩|⟨rfl,rfl,rfl,rfl,hl,rfl⟩|⟨rfl,rfl,rfl,rfl,rfl,rfl,rfl,hl,rfl,rfl,rfl⟩|⟨rfl,rfl,rfl,rfl,rfl,rfl,hl⟩
 ·obtain rfl:lost=[]:=List.eq_nil_of_length_eq_zero hl
  have n:=EX [id,dest,ak,from_,av] []
  simp only[fA,List.flatMap_cons,List.flatMap_nil,List.append_nil]at n
  have n0:=n 0 id rfl;have n1:=n 1 dest rfl;have n2:=n 2 ak rfl;have n3:=n 3 from_ rfl;have n4:=n 4 av rfl
  simp only[Nat.mul_zero,Nat.reduceMul]at n0 n1 n2 n3 n4
  cases unknown<;>simp_all [Pk.bytes,Pk.dec,Pk.body,al]
 ·obtain rfl:lost=[]:=List.eq_nil_of_length_eq_zero hl
  have n:=EX [dest,ak,from_,bD] []
  simp only[fA,List.flatMap_cons,List.flatMap_nil,List.append_nil]at n
  have n0:=n 0 dest rfl;have n1:=n 1 ak rfl;have n2:=n 2 from_ rfl;have n3:=n 3 bD rfl
  simp only[Nat.mul_zero,Nat.reduceMul]at n0 n1 n2 n3
  simp_all [Pk.bytes,Pk.dec,Pk.body,al]
 ·have e4:=FJ (lost.length:Int) (by omega) (by omega)
  have e5:(b8 (lost.length:Int)).toNat=lost.length:=by omega
  have e6:=qk lost [] lost.length (Nat.le_refl _)
  rw[List.append_nil,List.take_length]at e6
  have e7:=jY lost
  simp only[Pk.bytes,Pk.dec,Pk.body]
  simp[e3,e5,e6,e7,h4,e1,show 1≤lost.length by omega]
 ·obtain rfl:lost=[]:=List.eq_nil_of_length_eq_zero hl
  have e4:=FJ (ar.length:Int) (by omega) (by omega)
  have e5:(b8 (ar.length:Int)).toNat=ar.length:=by omega
  have n:=EX [id,dest,from_] ar
  simp only[fA,List.flatMap_cons,List.flatMap_nil,List.append_nil,List.append_assoc]at n
  have n0:=n 0 id rfl;have n1:=n 1 dest rfl;have n2:=n 2 from_ rfl
  simp only[Nat.mul_zero,Nat.reduceMul]at n0 n1 n2
  have e6:(be id++(be dest++(be from_++ar))).drop 12=ar:=by
   rw[←List.append_assoc,←List.append_assoc]
   exact List.drop_left' (by simp[al])
  simp only[Pk.bytes,Pk.dec,Pk.body]
  simp[e3,e5,e6,h3,e1,n0,n1,n2,al]
  omega
theorem wK (b:UInt8):b8 (b.toNat:Int)=b:=by
 unfold b8;apply UInt8.toNat_inj.1;have:=b.toNat_lt;simp;omega
theorem qT (l:List UInt8):∀(n:Nat),4*n=l.length→l=fA ((List.range n).map fun i=>bm l (4*i)):=by
 intro n hn
 have key:∀k,k≤n→fA ((List.range k).map fun i=>bm l (4*i))=l.take (4*k):=by
  intro k
  induction k with
  |zero=>intro _;simp[fA]
  |succ k ih=>
   intro hk
   rw[List.range_succ,List.map_append]
   have e:fA ([k].map fun i=>bm l (4*i))=(l.drop (4*k)).take 4:=by
    simp only[fA,List.map_cons,List.map_nil,List.flatMap_cons,List.flatMap_nil,List.append_nil]
    exact wL l _ (by omega)
   have e2:∀a b,fA (a++b)=fA a++fA b:=fun a b=>by simp[fA]
   rw[e2,ih (by omega),e,show 4*(k+1)=4*k+4 by omega]
   exact(List.take_add (i:=4*k) (j:=4)).symm
 rw[key n (Nat.le_refl _),hn,List.take_length]
theorem Pk.oM {s:List UInt8} {p:Pk} (h:Pk.dec s=some p):p.Fits∧p.bytes=s:=by
 unfold Pk.dec at h
 split at h
 ·rename_i t k f z n l
  split at h
  ·rename_i hz
   obtain⟨rfl,ht⟩:=hz
   have Nq:1≤(t.toNat:Int):=by
    have:t.toNat≠0:=fun e=>ht (UInt8.toNat_inj.1 (by rw[e];rfl))
    omega
   have zu:=t.toNat_lt
   have OP:=n.toNat_lt
   unfold Pk.body at h
   split at h
   ·rename_i hk;subst hk
    split at h
    ·rename_i hc
     obtain⟨hl,hf⟩:=hc
     have hs:=qT l 5 hl.symm
     simp only[List.range,List.range.loop,List.map_cons,List.map_nil,fA,List.flatMap_cons,List.flatMap_nil,List.append_nil,Nat.mul_zero,Nat.reduceMul]at hs
     cases h
     refine⟨⟨⟨Nq,by dsimp only;omega,by dsimp only;omega,by dsimp only;omega,by simp,by simp⟩,.inl ⟨rfl,rfl,rfl,rfl,?_⟩⟩,?_⟩
     ·rcases hf with rfl|⟨rfl,h0⟩
      ·left;rfl
      ·right;exact h0
     ·rcases hf with rfl|⟨rfl,h0⟩
      ·simp only[Pk.bytes,wK]
       simp only[if_true,List.append_assoc]
       rw[←hs];rfl
      ·simp only[Pk.bytes,wK]
       simp only[if_true,List.append_assoc]
       rw[←hs];rfl
    ·cases h
   ·split at h
    ·rename_i hk;subst hk
     split at h
     ·rename_i hc
      obtain⟨hl,rfl⟩:=hc
      have hs:=qT l 4 hl.symm
      simp only[List.range,List.range.loop,List.map_cons,List.map_nil,fA,List.flatMap_cons,List.flatMap_nil,List.append_nil,Nat.mul_zero,Nat.reduceMul]at hs
      cases h
      refine⟨⟨⟨Nq,by dsimp only;omega,by dsimp only;omega,by dsimp only;omega,by simp,by simp⟩,.inr (.inl ⟨rfl,rfl,rfl,rfl,rfl,rfl⟩)⟩,?_⟩
      simp only[Pk.bytes,wK]
      rw[if_neg (by decide),if_pos trivial]
      simp only[List.append_assoc]
      rw[←hs];rfl
     ·cases h
    ·split at h
     ·rename_i hk;subst hk
      split at h
      ·rename_i hc
       obtain⟨hn,X0,hl,rfl⟩:=hc
       cases h
       have e:=jZ l n.toNat
       refine⟨⟨⟨Nq,by dsimp only;omega,by simp,by simp,by simp,by dsimp only;omega⟩,.inr (.inr (.inl ⟨rfl,rfl,rfl,rfl,rfl,rfl,rfl,by dsimp only;omega,rfl,rfl,rfl⟩))⟩,?_⟩
       simp only[Pk.bytes,wK,e]
       rw[if_neg (by decide),if_neg (by decide),if_pos trivial,qj l _ (by omega),←hl,List.take_length]
       rfl
      ·cases h
     ·split at h
      ·rename_i hk;subst hk
       split at h
       ·rename_i hc
        obtain⟨hn,hl,rfl⟩:=hc
        cases h
        have e:(l.drop 12).length=n.toNat:=by simp;omega
        refine⟨⟨⟨Nq,by dsimp only;omega,by simp,by simp,by dsimp only;omega,by simp⟩,.inr (.inr (.inr ⟨rfl,rfl,rfl,rfl,rfl,rfl,rfl⟩))⟩,?_⟩
        simp only[Pk.bytes,wK,e]
        rw[if_neg (by decide),if_neg (by decide),if_neg (by decide)]
        have hs:=qT (l.take 12) 3 (by simp;omega)
        have en:∀i,i+4≤12→bm (l.take 12) i=bm l i:=fun i hi=>by
         simp only[bm,dW,List.getElem?_take]
         rw[if_pos (by omega),if_pos (by omega),if_pos (by omega),if_pos (by omega)]
        simp only[List.range,List.range.loop,List.map_cons,List.map_nil,fA,List.flatMap_cons,List.flatMap_nil,List.append_nil,Nat.mul_zero,Nat.reduceMul]at hs
        rw[en 0 (by omega),en 4 (by omega),en 8 (by omega)]at hs
        have VD:be (bm l 0)++(be (bm l 4)++(be (bm l 8)++l.drop 12))=l:=by
         rw[←List.append_assoc,←List.append_assoc,List.append_assoc (be (bm l 0)),←hs,List.take_append_drop]
        simp only[List.append_assoc]
        rw[VD];rfl
       ·cases h
      ·cases h
  ·cases h
 ·cases h
theorem Pk.FN {s:List UInt8} {p:Pk}:Pk.dec s=some p↔p.Fits∧p.bytes=s:=⟨Pk.oM,fun⟨h1,h2⟩=>by rw[←h2];exact Pk.G9 h1⟩
end
section
open Go.RowKit
attribute [local irreducible] WS LS cD eM cn cv Spec bA iR iQ aK
variable (w0:World)
theorem oc (l:List UInt8) (h:4≤l.length) (v:Value) (X:af) [hX:eX w0 X v UInt8 1 bU l]:Spec Tryz.prog w0 111 [v] X (fun _:Unit=>u32 (bm l 0)) (fun _=>X):=by
 refine Spec.enter Tryz.func111 rfl Tryz.ntmps111 rfl fun G=> ?_
 simp only[aN]
 have h0:=fx (l:=l) (i:=0) (by omega)
 have h1:=fx (l:=l) (i:=1) (by omega)
 have h2:=fx (l:=l) (i:=2) (by omega)
 have h3:=fx (l:=l) (i:=3) (by omega)
 repeat' (first|refine ag (id:=1) (.range 23) ?_|(refine ab ?_;intro K hK)|(refine hK _ ?_;clear hK K)|refine ax ?_|refine az ?_|((first|refine' LQ ?zh rfl ?_|refine' bk rfl rfl ?zh ?_);case zh=>intro F';exact po rfl iI iI)|((refine' bk rfl rfl ?zh ?_);case zh=>intro F';exact bE rfl rfl iI)|fail)
 exact aC (.inl rfl) rfl rfl ⟨(),by rw[bm,←KB],ah⟩
theorem cg (l:List UInt8) (h:4≤l.length):Spec Tryz.prog w0 148 [aZ l] emp (fun _:Unit=>u32 (bm l 0)) (fun _=>emp):=by
 refine Spec.enter Tryz.func148 rfl Tryz.ntmps148 rfl fun G=> ?_
 simp only[aN]
 have h0:=fx (l:=l) (i:=0) (by omega)
 have h1:=fx (l:=l) (i:=1) (by omega)
 have h2:=fx (l:=l) (i:=2) (by omega)
 have h3:=fx (l:=l) (i:=3) (by omega)
 repeat' (first|refine ag (id:=1) (.range 19) ?_|(refine ab ?_;intro K hK)|(refine hK _ ?_;clear hK K)|refine ax ?_|refine az ?_|((first|refine' LQ ?zh rfl ?_|refine' bk rfl rfl ?zh ?_);case zh=>intro F';first|exact po rfl iI iI|exact eH rfl rfl iI iI (by assumption))|((refine' bk rfl rfl ?zh ?_);case zh=>intro F';exact bE rfl rfl iI)|fail)
 exact aC (.inl rfl) rfl rfl ⟨(),by rw[bm,←KB],ah⟩
def brk:List PanicEntry:=[{v:= .iface 232 (.agg #[]),recovered:=false}]
theorem Kv:Spec Tryz.prog w0 72 [.bool true] emp (fun _:Unit=> .tuple #[]) (fun _=>emp):=by
 refine Spec.enter Tryz.func72 rfl Tryz.ntmps72 rfl fun G=> ?_
 simp only[aN]
 repeat' (first|(refine ab ?_;intro K hK)|(refine hK _ ?_;clear hK K)|refine ax ?_|(refine aF ?_ ?_<;>intro hc<;>(try simp only[cS]at hc)<;>(try exact aG))|refine az ?_)
 exact aj (.inr rfl) rfl ⟨(),rfl,ah⟩
theorem Ku:iR Tryz.prog w0 72 [.bool false] emp brk emp:=by
 refine iR.enter Tryz.func72 rfl Tryz.ntmps72 rfl fun G=> ?_
 simp only[aN]
 repeat' (first|(refine ab ?_;intro K hK)|(refine hK _ ?_;clear hK K)|refine ax ?_|(refine aF ?_ ?_<;>intro hc<;>(try simp only[cS]at hc)<;>(try exact aG))|refine az ?_|refine lI (uS rfl (by kernel_rfl)) rfl ?_|refine IS rfl ?_)
 exact⟨rfl,rfl,ah⟩
section reader
variable (l:List UInt8) (v:Value) (g:Nat) (X:af) [hX:eX w0 X v UInt8 1 bU l]
include hX in
theorem Fk (k:Nat) (x:Int) (hx:x=(k:Int)) (hk:k≤l.length):Spec Tryz.prog w0 74 [ptr g 0,.int .i64 x] (aK g 176 [v]*X) (fun _:Unit=>di v k) (fun _=>aK g 176 [cq 1 v k]*X):=by
 subst hx
 refine Spec.enter Tryz.func74 rfl Tryz.ntmps74 rfl fun G=> ?_
 simp only[aN]
 repeat' (first|(refine ab ?_;intro K hK)|(refine hK _ ?_;clear hK K)|refine ax ?_|refine aX ?_|refine az ?_|((refine' LQ ?zh rfl ?_);case zh=>intro F';first|exact dv rfl rfl iI iI iI iI (by first|assumption|omega|(simp[al]<;>omega))|exact cW rfl rfl iI iI iI iI (by first|assumption|omega|(simp[al]<;>omega)))|(refine bQ ?_;intro g)|(refine ai (aa iI rfl (Kv w0) iI) rfl ?_;intro u))
 exact aC (.inl rfl) rfl rfl ⟨(),rfl,ah⟩
include hX in
theorem Fj (k:Nat) (x:Int) (hx:x=(k:Int)) (hk:l.length<k):iR Tryz.prog w0 74 [ptr g 0,.int .i64 x] (aK g 176 [v]*X) brk (aK g 176 [v]*X):=by
 subst hx
 refine iR.enter Tryz.func74 rfl Tryz.ntmps74 rfl fun G=> ?_
 simp only[aN]
 repeat' (first|(refine ab ?_;intro K hK)|(refine hK _ ?_;clear hK K)|refine ax ?_|refine aX ?_|refine az ?_|refine lG iI rfl (Ku w0) iI ?_|refine ij ?_)
 exact⟨rfl,rfl,ah⟩
include hX in
theorem R0 (hk:1≤l.length):Spec Tryz.prog w0 71 [ptr g 0] (aK g 176 [v]*X) (fun _:Unit=> .int .i64 ((dW l 0).toNat:Int)) (fun _=>aK g 176 [cq 1 v 1]*X):=by
 refine Spec.enter Tryz.func71 rfl Tryz.ntmps71 rfl fun G=> ?_
 simp only[aN]
 have h0:(l.take 1)[0]? =some (dW l 0):=by rw[List.getElem?_take,if_pos (by omega)];exact fx (by omega)
 have hlen:(l.take 1).length=1:=by simp;omega
 repeat' (first|(refine ab ?_;intro K hK)|(refine hK _ ?_;clear hK K)|refine ax ?_|refine az ?_|((refine' LQ ?zh rfl ?_);case zh=>intro F';exact fu rfl iI iI)|(refine ai (aa iI rfl (Fk w0 l v g X 1 1 rfl hk) iI) rfl ?_;intro u))
 exact aC (.inl rfl) rfl rfl ⟨(),rfl,ah⟩
include hX in
theorem RZ (hk:l.length<1):iR Tryz.prog w0 71 [ptr g 0] (aK g 176 [v]*X) brk (aK g 176 [v]*X):=by
 refine iR.enter Tryz.func71 rfl Tryz.ntmps71 rfl fun G=> ?_
 simp only[aN]
 repeat' (first|(refine ab ?_;intro K hK)|(refine hK _ ?_;clear hK K)|refine ax ?_|refine az ?_|refine lG iI rfl (Fj w0 l v g X 1 1 rfl hk) iI ?_|refine ij ?_)
 exact⟨rfl,rfl,ah⟩
include hX in
theorem AF (hk:4≤l.length):Spec Tryz.prog w0 73 [ptr g 0] (aK g 176 [v]*X) (fun _:Unit=>u32 (bm l 0)) (fun _=>aK g 176 [cq 1 v 4]*X):=by
 refine Spec.enter Tryz.func73 rfl Tryz.ntmps73 rfl fun G=> ?_
 simp only[aN]
 have hn:=oc w0 (l.take 4) (by simp;omega) (di v 4) X
 have e:bm (l.take 4) 0=bm l 0:=by simp[bm,dW,List.getElem?_take]
 rw[e]at hn
 repeat' (first|(refine ab ?_;intro K hK)|(refine hK _ ?_;clear hK K)|refine ax ?_|refine az ?_|(refine ai (aa iI rfl (Fk w0 l v g X 4 4 rfl hk) iI) rfl ?_;intro u)|(refine ai (aa iI rfl hn iI) rfl ?_;intro u))
 exact aC (.inl rfl) rfl rfl ⟨(),rfl,ah⟩
include hX in
theorem Ed (hk:l.length<4):iR Tryz.prog w0 73 [ptr g 0] (aK g 176 [v]*X) brk (aK g 176 [v]*X):=by
 refine iR.enter Tryz.func73 rfl Tryz.ntmps73 rfl fun G=> ?_
 simp only[aN]
 repeat' (first|(refine ab ?_;intro K hK)|(refine hK _ ?_;clear hK K)|refine ax ?_|refine az ?_|refine lG iI rfl (Fj w0 l v g X 4 4 rfl hk) iI ?_|refine ij ?_)
 exact⟨rfl,rfl,ah⟩
end reader
end
section
open Go.RowKit
theorem vQ (c:UInt32):Ea c=if c&&& 1=1 then(c>>>1) ^^^ 3988292384 else c>>>1:=by
 have e1:UInt32.ofNat (c.toNat / 2)=c>>>1:=by
  rw[←UInt32.toNat_inj,Ei,UInt32.toNat_shiftRight]
  show c.toNat / 2=c.toNat>>>(1 % 32)
  rw[Nat.mod_eq_of_lt (by decide),Nat.shiftRight_eq_div_pow]
 have e2:(c.toNat % 2=1)↔(c&&& 1=1):=by
  rw[←UInt32.toNat_inj,UInt32.toNat_and]
  show _↔c.toNat&&& 1=1
  rw[Nat.and_one_is_mod]
 unfold Ea
 simp only[e1,e2]
theorem xP (b:UInt8):UInt32.ofNat b.toNat=b.toUInt32:=by
 rw[←UInt32.toNat_inj,DX];simp
attribute [local irreducible] WS LS cD eM cn cv Spec bA aK
variable (w0:World)
instance:ej (.int .u32 3988292384) 3988292384:=⟨rfl⟩
instance QD {P:Program} {x:UInt32}:Qv P .xor (u32 x) (u32 (4294967295 ^^^ x)):=⟨fun w=>by
 show(Op.intBits .xor .u32 IntKind.u32.max (x.toNat:Int)).run P w=_
 have e:IntKind.u32.max=((4294967295:UInt32).toNat:Int):=rfl
 rw[intBits_xor,e,u32_xor_nat _ _ (pd _) (pd x),←UInt32.toNat_xor];rfl⟩
theorem Ds (c:UInt32):Spec Tryz.prog w0 108 [u32 c] emp (fun _:Unit=>u32 (lK 8 c)) (fun _=>emp):=by
 refine Spec.enter Tryz.func108 rfl Tryz.ntmps108 rfl fun G=> ?_
 simp only[aN]
 repeat' (first|(refine ab ?_;intro K hK)|(refine hK _ ?_;clear hK K)|refine ax ?_|refine az ?_)
 refine aV (fun m τ=>∃j:Nat,j+m=8∧τ=⟨[(4,.int .i64 (j:Int)),(0,u32 (lK j c))],[],emp*G⟩) ?_ ?_
 ·exact⟨8,_,⟨0,rfl,rfl⟩,cG,rfl,aq.refl _⟩
 ·rintro m τ ⟨j,hj,rfl⟩
  rcases Nat.lt_or_ge j 8 with bW|kQ
  ·repeat' (first|(refine ab ?_;intro K hK)|(refine hK _ ?_;clear hK K)|refine ax ?_|(refine aF ?_ ?_<;>intro hc<;>(try simp only[cS]at hc)<;>(try exact aG))|refine aX ?_|refine az ?_|((first|refine dn rfl rfl iI rfl ?_ ?_|refine dm rfl rfl iI rfl ?_ ?_)<;>intro hc)|((refine' LQ ?zh rfl ?_);case zh=>intro F';exact bE rfl rfl iI)|fail)
   ·have e:lK (j+1) c=(lK j c>>>1) ^^^ 3988292384:=by show Ea _=_;rw[vQ,if_pos hc]
    exact⟨m - 1,_,by omega,⟨j+1,by omega,rfl⟩,⟨rfl,by rw[e];rfl,trivial⟩,rfl,aq.refl _⟩
   ·have e:lK (j+1) c=lK j c>>>1:=by show Ea _=_;rw[vQ,if_neg hc]
    exact⟨m - 1,_,by omega,⟨j+1,by omega,rfl⟩,⟨rfl,by rw[e];rfl,trivial⟩,rfl,aq.refl _⟩
  ·obtain rfl:j=8:=by omega
   repeat' (first|(refine ab ?_;intro K hK)|(refine hK _ ?_;clear hK K)|refine ax ?_|(refine aF ?_ ?_<;>intro hc<;>(try simp only[cS]at hc)<;>(try exact aG))|refine aX ?_|refine az ?_)
   exact aC (.inl rfl) rfl rfl ⟨(),rfl,ah⟩
theorem zY (l:List UInt8) (hl:l.length≤1000000) (v:Value) (X:af) [hX:eX w0 X v UInt8 1 bU l]:Spec Tryz.prog w0 55 [v] X (fun _:Unit=>u32 (sumOf l)) (fun _=>X):=by
 refine Spec.enter Tryz.func55 rfl Tryz.ntmps55 rfl fun G=> ?_
 simp only[aN]
 repeat' (first|(refine ab ?_;intro K hK)|(refine hK _ ?_;clear hK K)|refine ax ?_|refine az ?_)
 refine aV (fun m τ=>∃j:Nat,j+m=l.length∧τ=⟨[(8,.int .i64 (j:Int)),(7,.int .i64 (l.length:Int)),(6,v),(3,u32 (qu 4294967295 (l.take j)))],[],X*G⟩) ?_ ?_
 ·exact⟨l.length,_,⟨0,by omega,rfl⟩,cG,rfl,ah⟩
 ·rintro m τ ⟨j,hj,rfl⟩
  rcases Nat.lt_or_ge j l.length with bW|kQ
  ·obtain⟨z,hz⟩:∃z,l[j]? =some z:=⟨_,List.getElem?_eq_getElem bW⟩
   repeat' (first|(refine ab ?_;intro K hK)|(refine hK _ ?_;clear hK K)|refine ax ?_|(refine aF ?_ ?_<;>intro hc<;>(try simp only[cS]at hc)<;>(try exact aG))|refine aX ?_|refine az ?_|((refine' LQ ?zh rfl ?_);case zh=>intro F';exact po rfl iI iI)|((refine' LQ ?zh rfl ?_);case zh=>intro F';exact bE rfl rfl iI)|(refine ai (aa iI rfl (Ds w0 _) iI) rfl ?_;intro u))
   refine⟨m - 1,_,by omega,⟨j+1,by omega,rfl⟩,⟨rfl,rfl,rfl,?_,trivial⟩,rfl,ah⟩
   rw[List.take_add_one,hz]
   show some _=some _
   rw[Option.toList_some,yf,xP]
  ·obtain rfl:j=l.length:=by omega
   rw[List.take_length]
   repeat' (first|(refine ab ?_;intro K hK)|(refine hK _ ?_;clear hK K)|refine ax ?_|(refine aF ?_ ?_<;>intro hc<;>(try simp only[cS]at hc)<;>(try exact aG))|refine aX ?_|refine az ?_)
   exact aC (.inl rfl) rfl rfl ⟨(),rfl,ah⟩
theorem zQ (l:List UInt8) (hl:l.length≤1000000):Spec Tryz.prog w0 147 [aZ l] emp (fun _:Unit=>u32 (sumOf l)) (fun _=>emp):=by
 refine Spec.enter Tryz.func147 rfl Tryz.ntmps147 rfl fun G=> ?_
 simp only[aN]
 repeat' (first|(refine ab ?_;intro K hK)|(refine hK _ ?_;clear hK K)|refine ax ?_|refine az ?_)
 refine aV (fun m τ=>∃j:Nat,j+m=l.length∧τ=⟨[(4,.int .i64 (j:Int)),(0,aZ l),(3,u32 (qu 4294967295 (l.take j)))],[],emp*G⟩) ?_ ?_
 ·exact⟨l.length,_,⟨0,by omega,rfl⟩,cG,rfl,ah⟩
 ·rintro m τ ⟨j,hj,rfl⟩
  rcases Nat.lt_or_ge j l.length with bW|kQ
  ·obtain⟨z,hz⟩:∃z,l[j]? =some z:=⟨_,List.getElem?_eq_getElem bW⟩
   repeat' (first|(refine ab ?_;intro K hK)|(refine hK _ ?_;clear hK K)|refine ax ?_|(refine aF ?_ ?_<;>intro hc<;>(try simp only[cS]at hc)<;>(try exact aG))|refine aX ?_|refine az ?_|((refine' LQ ?zh rfl ?_);case zh=>intro F';first|exact po rfl iI iI|exact eH rfl rfl iI iI (by assumption))|((refine' LQ ?zh rfl ?_);case zh=>intro F';exact bE rfl rfl iI)|fail)
   refine aV (fun m' τ=>∃i:Nat,i+m'=8∧τ=⟨[(5,.int .i64 (i:Int)),(4,.int .i64 (j:Int)),(0,aZ l),(3,u32 (lK i (qu 4294967295 (l.take j) ^^^ z.toUInt32)))],[],emp*G⟩) ?_ ?_
   ·exact⟨8,_,⟨0,rfl,rfl⟩,cG,rfl,ah⟩
   ·rintro m' τ ⟨i,hi,rfl⟩
    rcases Nat.lt_or_ge i 8 with XV|XF
    ·generalize qu 4294967295 (l.take j) ^^^ z.toUInt32=c
     repeat' (first|(refine ab ?_;intro K hK)|(refine hK _ ?_;clear hK K)|refine ax ?_|(refine aF ?_ ?_<;>intro hc<;>(try simp only[cS]at hc)<;>(try exact aG))|refine aX ?_|refine az ?_|((first|refine dn rfl rfl iI rfl ?_ ?_|refine dm rfl rfl iI rfl ?_ ?_)<;>intro hc)|((refine' LQ ?zh rfl ?_);case zh=>intro F';exact bE rfl rfl iI)|fail)
     ·have e:lK (i+1) c=(lK i c>>>1) ^^^ 3988292384:=by show Ea _=_;rw[vQ,if_pos hc]
      exact⟨m' - 1,_,by omega,⟨i+1,by omega,rfl⟩,⟨rfl,rfl,rfl,by rw[e];rfl,trivial⟩,rfl,ah⟩
     ·have e:lK (i+1) c=lK i c>>>1:=by show Ea _=_;rw[vQ,if_neg hc]
      exact⟨m' - 1,_,by omega,⟨i+1,by omega,rfl⟩,⟨rfl,rfl,rfl,by rw[e];rfl,trivial⟩,rfl,ah⟩
    ·obtain rfl:i=8:=by omega
     have e:qu 4294967295 (l.take (j+1))=lK 8 (qu 4294967295 (l.take j) ^^^ z.toUInt32):=by
      rw[List.take_add_one,hz,Option.toList_some,yf,xP]
     rw[←e]
     repeat' (first|(refine ab ?_;intro K hK)|(refine hK _ ?_;clear hK K)|refine ax ?_|(refine aF ?_ ?_<;>intro hc<;>(try simp only[cS]at hc)<;>(try exact aG))|refine aX ?_|refine az ?_)
     exact⟨m - 1,_,by omega,⟨j+1,by omega,rfl⟩,cG,rfl,ah⟩
  ·obtain rfl:j=l.length:=by omega
   rw[List.take_length]
   repeat' (first|(refine ab ?_;intro K hK)|(refine hK _ ?_;clear hK K)|refine ax ?_|(refine aF ?_ ?_<;>intro hc<;>(try simp only[cS]at hc)<;>(try exact aG))|refine aX ?_|refine az ?_)
   exact aC (.inl rfl) rfl rfl ⟨(),rfl,ah⟩
theorem oe (r:Rec):Spec Tryz.prog w0 31 [.agg r.cells.toArray] emp (fun v':Value=>v') (fun v'=>rows 5 1 bU v' r.bytes):=by
 obtain⟨own,addr,seq⟩:=r
 cases own
 all_goals
  refine Spec.enter Tryz.func31 rfl Tryz.ntmps31 rfl fun G=> ?_
  simp only[aN,Rec.cells]
 ·have e:([2]++be addr++be seq)++be (sumOf ([2]++be addr++be seq))=Rec.bytes ⟨false,addr,seq⟩:=by simp[Rec.bytes,Rec.head]
  repeat' (first|(refine ab ?_;intro K hK)|(refine hK _ ?_;clear hK K)|refine ax ?_|(refine aF ?_ ?_<;>intro hc<;>(try simp only[cS]at hc)<;>(try exact aG))|refine az ?_|(refine bT ?_;intro g)|((refine' ai ?zh rfl ?_);(case zh=>exact lF iI iI iI rfl rfl rfl rfl rfl iI rfl rfl);intro g)|(refine ai (aa iI rfl (jG w0 _ ([2]) addr (by simp)) iI) rfl ?_;intro v3)|(refine ai (aa iI rfl (jG w0 v3 ([2]++be addr) seq (by simp[al])) iI) rfl ?_;intro v4)|(refine ai (aa iI rfl (zY w0 ([2]++be addr++be seq) (by simp[al]) v4 (rows 5 1 bU v4 ([2]++be addr++be seq))) iI) rfl ?_;intro u)|(refine ai (aa iI rfl (jG w0 v4 ([2]++be addr++be seq) (sumOf ([2]++be addr++be seq)) (by simp[al])) iI) rfl ?_;intro v5))
  rw[e]
  exact aC (.inl rfl) rfl rfl ⟨v5,rfl,ah⟩
 ·have e:([2].set 0 1++be 0++be seq)++be (sumOf ([2].set 0 1++be 0++be seq))=Rec.bytes ⟨true,addr,seq⟩:=by simp[Rec.bytes,Rec.head]
  repeat' (first|(refine ab ?_;intro K hK)|(refine hK _ ?_;clear hK K)|refine ax ?_|(refine aF ?_ ?_<;>intro hc<;>(try simp only[cS]at hc)<;>(try exact aG))|refine az ?_|(refine bT ?_;intro g)|((refine' ai ?zh rfl ?_);(case zh=>exact lF iI iI iI rfl rfl rfl rfl rfl iI rfl rfl);intro g)|(refine bQ ?_;intro g)|((refine' bL ?zh ?_);(case zh=>exact oF rfl rfl iI iI rfl iI (by first|assumption|omega|(simp[al]<;>omega)));intro g)|(refine ai (aa iI rfl (jG w0 _ ([2].set 0 1) 0 (by simp)) iI) rfl ?_;intro v3)|(refine ai (aa iI rfl (jG w0 v3 ([2].set 0 1++be 0) seq (by simp[al])) iI) rfl ?_;intro v4)|(refine ai (aa iI rfl (zY w0 ([2].set 0 1++be 0++be seq) (by simp[al]) v4 (rows 5 1 bU v4 ([2].set 0 1++be 0++be seq))) iI) rfl ?_;intro u)|(refine ai (aa iI rfl (jG w0 v4 ([2].set 0 1++be 0++be seq) (sumOf ([2].set 0 1++be 0++be seq)) (by simp[al])) iI) rfl ?_;intro v5))
  rw[e]
  exact aC (.inl rfl) rfl rfl ⟨v5,rfl,ah⟩
theorem mz (r:Rec):Spec Tryz.prog w0 91 [.agg r.cells.toArray] emp (fun _:Unit=>aZ r.bytes) (fun _=>emp):=by
 obtain⟨own,addr,seq⟩:=r
 have f0:=jz w0 0
 have fa:=jz w0 addr
 have fs:=jz w0 seq
 have l0:=al 0;have la:=al addr;have ls:=al seq
 cases own
 ·have e:([2]++be addr++be seq)++be (sumOf ([2]++be addr++be seq))=Rec.bytes ⟨false,addr,seq⟩:=by simp[Rec.bytes,Rec.head]
  have hs:=zQ w0 ([2]++be addr++be seq) (by simp[al])
  have hf:=jz w0 (sumOf ([2]++be addr++be seq))
  have lf:=al (sumOf ([2]++be addr++be seq))
  refine Spec.enter Tryz.func91 rfl Tryz.ntmps91 rfl fun G=> ?_
  simp only[aN,Rec.cells]
  repeat' (first|refine ag (id:=1) [0,1,4,5,2,3,6,7,8] ?_|(refine ab ?_;intro K hK)|(refine hK _ ?_;clear hK K)|refine ax ?_|(refine aF ?_ ?_<;>intro hc<;>(try simp only[cS]at hc)<;>(try exact aG))|refine az ?_|((first|refine' LQ ?zh rfl ?_|refine' bk rfl rfl ?zh ?_);case zh=>intro F';exact kP rfl rfl (by first|omega|(simp[al]<;>omega)))|(refine bT ?_;intro g)|(refine aD (aa iI rfl fa iI) rfl rfl rfl ?_;intro u)|(refine aD (aa iI rfl fs iI) rfl rfl rfl ?_;intro u)|(refine ai (aa iI rfl hs iI) rfl ?_;intro u)|(refine ai (aa iI rfl hf iI) rfl ?_;intro u))
  rw[e]
  exact aC (.inl rfl) rfl rfl ⟨(),rfl,ah⟩
 ·have e:([1]++be 0++be seq)++be (sumOf ([1]++be 0++be seq))=Rec.bytes ⟨true,addr,seq⟩:=by simp[Rec.bytes,Rec.head]
  have hs:=zQ w0 ([1]++be 0++be seq) (by simp[al])
  have hf:=jz w0 (sumOf ([1]++be 0++be seq))
  have lf:=al (sumOf ([1]++be 0++be seq))
  refine Spec.enter Tryz.func91 rfl Tryz.ntmps91 rfl fun G=> ?_
  simp only[aN,Rec.cells]
  repeat' (first|refine ag (id:=1) [0,1,4,5,2,3,6,7,8] ?_|refine ag (id:=3) [2,3,0,1,4,5,6] ?_|(refine ab ?_;intro K hK)|(refine hK _ ?_;clear hK K)|refine ax ?_|(refine aF ?_ ?_<;>intro hc<;>(try simp only[cS]at hc)<;>(try exact aG))|refine az ?_|((first|refine' LQ ?zh rfl ?_|refine' bk rfl rfl ?zh ?_);case zh=>intro F';exact kP rfl rfl (by first|omega|(simp[al]<;>omega)))|(refine bT ?_;intro g)|(refine aD (aa iI rfl f0 iI) rfl rfl rfl ?_;intro u)|(refine aD (aa iI rfl fa iI) rfl rfl rfl ?_;intro u)|(refine aD (aa iI rfl fs iI) rfl rfl rfl ?_;intro u)|(refine ai (aa iI rfl hs iI) rfl ?_;intro u)|(refine ai (aa iI rfl hf iI) rfl ?_;intro u))
  rw[e]
  exact aC (.inl rfl) rfl rfl ⟨(),rfl,ah⟩
end
section
open Go.RowKit
instance:cY Rec.cells 3:=⟨fun _=>rfl⟩
theorem cO:∀z,∀c∈Rec.cells z,c.oneCell'=true:=by intro z c hc;simp[Rec.cells]at hc;rcases hc with rfl|rfl|rfl<;>rfl
instance UX:Lit (true==true) true:=⟨rfl⟩
instance UW:Lit (false==false) true:=⟨rfl⟩
theorem zL {out:List Rec} {r x:Rec} {j:Nat} (hj:gP out r=out.take j++gP (out.drop j) r) (hx:out[j]? =some x) (h1:¬(x.own=r.own∧x.addr=r.addr)) (h2:¬(r.own=true∨(x.own=false∧r.addr<x.addr))):gP out r=out.take (j+1)++gP (out.drop (j+1)) r:=by
 have bW:=(List.getElem?_eq_some_iff.1 hx).1
 have hd:out.drop j=x::out.drop (j+1):=by
  rw[←(List.getElem?_eq_some_iff.1 hx).2,List.getElem_cons_drop]
 rw[hj,hd,gP,if_neg h1,if_neg h2,List.take_add_one,hx]
 simp
theorem ub {out:List Rec} {r x:Rec} {j:Nat} (hj:gP out r=out.take j++gP (out.drop j) r) (hx:out[j]? =some x) (h1:¬(x.own=r.own∧x.addr=r.addr)) (h2:r.own=true∨(x.own=false∧r.addr<x.addr)):gP out r=[]++out.take j++[r]++out.drop j:=by
 have hd:out.drop j=x::out.drop (j+1):=by
  rw[←(List.getElem?_eq_some_iff.1 hx).2,List.getElem_cons_drop]
 rw[hj,hd,gP,if_neg h1,if_pos h2]
 simp
theorem CY {out:List Rec} {r:Rec} (hj:gP out r=out.take out.length++gP (out.drop out.length) r):gP out r=[]++out.take out.length++[r]++out.drop out.length:=by
 rw[hj];simp[gP]
theorem sz {out:List Rec} {r x:Rec} {j:Nat} (hj:gP out r=out.take j++gP (out.drop j) r) (hx:out[j]? =some x) (h1:x.own=r.own∧x.addr=r.addr):gP out r=out.set j {x with seq:=max x.seq r.seq}:=by
 have bW:=(List.getElem?_eq_some_iff.1 hx).1
 have hd:out.drop j=x::out.drop (j+1):=by
  rw[←(List.getElem?_eq_some_iff.1 hx).2,List.getElem_cons_drop]
 rw[hj,hd,gP,if_pos h1,List.set_eq_take_append_cons_drop,if_pos bW]
theorem Dk {l:List Rec} {j:Nat} {x:Rec} (h:l[j]? =some x):l.set j x=l:=by
 obtain⟨h1,h2⟩:=List.getElem?_eq_some_iff.1 h
 rw[←h2];exact List.set_getElem_self h1
theorem Kn {a b:UInt32} (h:a<b):max a b=b:=by
 have e:max a b=if a≤b then b else a:=rfl
 rw[e,if_pos (by rw[UInt32.le_iff_toNat_le];have:=UInt32.lt_iff_toNat_lt.1 h;omega)]
theorem Gd {a b:UInt32} (h:¬a<b):max a b=a:=by
 have e:max a b=if a≤b then b else a:=rfl
 rw[e];split
 ·rename_i h2
  apply UInt32.toNat_inj.1
  have:=mt UInt32.lt_iff_toNat_lt.2 h
  have:=UInt32.le_iff_toNat_le.1 h2
  omega
 ·rfl
attribute [local irreducible] WS LS cD eM cn cv Spec bA aK
variable (w0:World)
theorem HP (v:Value) (out:List Rec) (hl:out.length≤100000) (addr seq:UInt32):Spec Tryz.prog w0 199 [v,.agg #[.bool false,u32 addr,u32 seq]] (rows 28 3 Rec.cells v out) (fun v':Value=>v') (fun v'=>rows 28 3 Rec.cells v' (gP out ⟨false,addr,seq⟩)):=by
 refine Spec.enter Tryz.func199 rfl Tryz.ntmps199 rfl fun G=> ?_
 simp only[aN]
 repeat' (first|(refine ab ?_;intro K hK)|(refine hK _ ?_;clear hK K)|refine ax ?_|(refine aF ?_ ?_<;>intro hc<;>(try simp only[cS]at hc)<;>(try exact aG))|refine az ?_|(refine bT ?_;intro g))
 revert g;intro g3
 refine aV (fun m τ=>∃j:Nat,j+m=out.length∧gP out ⟨false,addr,seq⟩=out.take j++gP (out.drop j) ⟨false,addr,seq⟩∧τ=⟨[(5,.int .i64 (j:Int)),(0,v),(3,ptr g3 0)],[],aK g3 28 [.bool false,u32 addr,u32 seq]*(rows 28 3 Rec.cells v out*G)⟩) ?_ ?_
 ·exact⟨out.length,_,⟨0,by omega,by simp,rfl⟩,cG,rfl,ah⟩
 ·rintro m τ ⟨j,hj,hp,rfl⟩
  rcases Nat.lt_or_ge j out.length with bW|kQ
  ·obtain⟨⟨xo,xa,xs⟩,hz⟩:∃z,out[j]? =some z:=⟨_,List.getElem?_eq_getElem bW⟩
   cases xo
   ·by_cases ha:xa=addr
    ·subst ha
     by_cases hs:xs<seq
     ·rw[sz hp hz ⟨rfl,rfl⟩,Kn hs]
      repeat' (first|refine ag (id:=5) (.range 18) ?_|refine ag (id:=6) (.range 8) ?_|(refine ab ?_;intro K hK)|(refine hK _ ?_;clear hK K)|refine ax ?_|(refine aF ?_ ?_<;>intro hc<;>(try simp only[cS]at hc)<;>(try exact aG))|refine az ?_|((first|refine' LQ ?zh rfl ?_|refine' bk rfl rfl ?zh ?_|refine' gM rfl rfl rfl ?zh ?_);case zh=>intro F';exact bp rfl rfl iI (by first|assumption|omega|decide|rfl))|(refine bL (dB (z:=⟨false,xa,xs⟩) ⟨false,xa,seq⟩ rfl rfl iI iI iI rfl (by assumption) rfl) ?_;intro g))
      exact aC (.inl rfl) rfl rfl ⟨v,rfl,ah⟩
     ·rw[sz hp hz ⟨rfl,rfl⟩,Gd hs,Dk hz]
      repeat' (first|refine ag (id:=5) (.range 18) ?_|refine ag (id:=6) (.range 8) ?_|(refine ab ?_;intro K hK)|(refine hK _ ?_;clear hK K)|refine ax ?_|(refine aF ?_ ?_<;>intro hc<;>(try simp only[cS]at hc)<;>(try exact aG))|refine az ?_|((first|refine' LQ ?zh rfl ?_|refine' bk rfl rfl ?zh ?_|refine' gM rfl rfl rfl ?zh ?_);case zh=>intro F';first|exact bp rfl rfl iI (by first|assumption|omega|decide|rfl)|exact bH rfl rfl iI (by first|assumption|omega|decide|rfl))|fail)
      exact aC (.inl rfl) rfl rfl ⟨v,rfl,ah⟩
    ·by_cases OC:addr<xa
     ·have eP:=ub hp hz (by simp_all) (by simp_all)
      refine cV (aq.nil _ 28 3 Rec.cells none) ?_
      have ht:(out.take j).length=j:=by simp;omega
      have sX:(out.drop j).length=out.length - j:=by simp
      repeat' (first|refine ag (id:=5) (.range 18) ?_|refine ag (id:=9) (.range 20) ?_|(refine ab ?_;intro K hK)|(refine hK _ ?_;clear hK K)|refine ax ?_|(refine aF ?_ ?_<;>intro hc<;>(try simp only[cS]at hc)<;>(try exact aG))|refine az ?_|((first|refine' LQ ?zh rfl ?_|refine' bk rfl rfl ?zh ?_|refine' gM rfl rfl rfl ?zh ?_);case zh=>intro F';first|exact bp rfl rfl iI (by first|assumption|omega|decide|rfl)|exact bH rfl rfl iI (by first|assumption|omega|decide|rfl)|exact dv rfl rfl iI iI iI iI (by first|assumption|omega|(simp[al]<;>omega))|exact cW rfl rfl iI iI iI iI (by first|assumption|omega|(simp[al]<;>omega)))|(refine ai (dH (rows 28 3 Rec.cells v out) rfl rfl iI iI iI rfl iI iI cO (by first|omega|(simp[al]<;>omega)) rfl) rfl ?_;intro v4)|(refine ai (au Rec.cells [⟨false,addr,seq⟩] iI iI iI rfl rfl rfl rfl rfl iI rfl rfl rfl) rfl ?_;intro vb)|(refine ai (aR rfl rfl iI iI rfl iI iI cO (by first|omega|(simp[al]<;>omega)) rfl) rfl ?_;intro v3))
      exact aC (.inl rfl) rfl rfl ⟨v4,rfl,by rw[eP];exact ah⟩
     ·have ma:=zL hp hz (by simp_all) (by simp_all)
      repeat' (first|refine ag (id:=5) (.range 18) ?_|refine ag (id:=9) (.range 20) ?_|(refine ab ?_;intro K hK)|(refine hK _ ?_;clear hK K)|refine ax ?_|(refine aF ?_ ?_<;>intro hc<;>(try simp only[cS]at hc)<;>(try exact aG))|refine az ?_|((first|refine' LQ ?zh rfl ?_|refine' bk rfl rfl ?zh ?_|refine' gM rfl rfl rfl ?zh ?_);case zh=>intro F';first|exact bp rfl rfl iI (by first|assumption|omega|decide|rfl)|exact bH rfl rfl iI (by first|assumption|omega|decide|rfl))|fail)
      exact⟨m - 1,_,by omega,⟨j+1,by omega,ma,rfl⟩,cG,rfl,ah⟩
   ·have ma:=zL hp hz (by simp_all) (by simp_all)
    repeat' (first|refine ag (id:=5) (.range 18) ?_|refine ag (id:=9) (.range 20) ?_|(refine ab ?_;intro K hK)|(refine hK _ ?_;clear hK K)|refine ax ?_|(refine aF ?_ ?_<;>intro hc<;>(try simp only[cS]at hc)<;>(try exact aG))|refine az ?_|((first|refine' LQ ?zh rfl ?_|refine' bk rfl rfl ?zh ?_|refine' gM rfl rfl rfl ?zh ?_);case zh=>intro F';exact bp rfl rfl iI (by first|assumption|omega|decide|rfl))|((first|refine dn rfl rfl iI rfl ?_ ?_|refine dm rfl rfl iI rfl ?_ ?_|refine dU rfl rfl iI rfl ?_ ?_)<;>intro hc)|((refine' gM rfl rfl rfl ?zh ?_);case zh=>intro F';exact bE rfl rfl iI)|fail)
    exact⟨m - 1,_,by omega,⟨j+1,by omega,ma,rfl⟩,cG,rfl,ah⟩
  ·obtain rfl:j=out.length:=by omega
   have eP:=CY hp
   refine cV (aq.nil _ 28 3 Rec.cells none) ?_
   have ht:(out.take out.length).length=out.length:=by simp
   have sX:(out.drop out.length).length=out.length - out.length:=by simp
   repeat' (first|(refine ab ?_;intro K hK)|(refine hK _ ?_;clear hK K)|refine ax ?_|(refine aF ?_ ?_<;>intro hc<;>(try simp only[cS]at hc)<;>(try exact aG))|refine az ?_|((refine' LQ ?zh rfl ?_);case zh=>intro F';first|exact bH rfl rfl iI (by first|assumption|omega|decide|rfl)|exact dv rfl rfl iI iI iI iI (by first|assumption|omega|(simp[al]<;>omega))|exact cW rfl rfl iI iI iI iI (by first|assumption|omega|(simp[al]<;>omega)))|(refine ai (dH (rows 28 3 Rec.cells v out) rfl rfl iI iI iI rfl iI iI cO (by first|omega|(simp[al]<;>omega)) rfl) rfl ?_;intro v4)|(refine ai (au Rec.cells [⟨false,addr,seq⟩] iI iI iI rfl rfl rfl rfl rfl iI rfl rfl rfl) rfl ?_;intro vb)|(refine ai (aR rfl rfl iI iI rfl iI iI cO (by first|omega|(simp[al]<;>omega)) rfl) rfl ?_;intro v3))
   exact aC (.inl rfl) rfl rfl ⟨v4,rfl,by rw[eP];exact ah⟩
theorem KO (v:Value) (out:List Rec) (hl:out.length≤100000) (addr seq:UInt32):Spec Tryz.prog w0 199 [v,.agg #[.bool true,u32 addr,u32 seq]] (rows 28 3 Rec.cells v out) (fun v':Value=>v') (fun v'=>rows 28 3 Rec.cells v' (gP out ⟨true,0,seq⟩)):=by
 refine Spec.enter Tryz.func199 rfl Tryz.ntmps199 rfl fun G=> ?_
 simp only[aN]
 repeat' (first|(refine ab ?_;intro K hK)|(refine hK _ ?_;clear hK K)|refine ax ?_|(refine aF ?_ ?_<;>intro hc<;>(try simp only[cS]at hc)<;>(try exact aG))|refine az ?_|(refine bT ?_;intro g)|(refine bQ ?_;intro g))
 rename_i g3
 refine aV (fun m τ=>∃j:Nat,j+m=out.length∧gP out ⟨true,0,seq⟩=out.take j++gP (out.drop j) ⟨true,0,seq⟩∧τ=⟨[(5,.int .i64 (j:Int)),(0,v),(3,ptr g3 0)],[],aK g3 28 [.bool true,.int .u32 0,u32 seq]*(rows 28 3 Rec.cells v out*G)⟩) ?_ ?_
 ·exact⟨out.length,_,⟨0,by omega,by simp,rfl⟩,cG,rfl,ah⟩
 ·rintro m τ ⟨j,hj,hp,rfl⟩
  rcases Nat.lt_or_ge j out.length with bW|kQ
  ·obtain⟨⟨xo,xa,xs⟩,hz⟩:∃z,out[j]? =some z:=⟨_,List.getElem?_eq_getElem bW⟩
   cases xo
   ·have eP:=ub hp hz (by simp) (by simp)
    refine cV (aq.nil _ 28 3 Rec.cells none) ?_
    have ht:(out.take j).length=j:=by simp;omega
    have sX:(out.drop j).length=out.length - j:=by simp
    repeat' (first|refine ag (id:=5) (.range 18) ?_|refine ag (id:=9) (.range 20) ?_|(refine ab ?_;intro K hK)|(refine hK _ ?_;clear hK K)|refine ax ?_|(refine aF ?_ ?_<;>intro hc<;>(try simp only[cS]at hc)<;>(try exact aG))|refine az ?_|((first|refine' LQ ?zh rfl ?_|refine' bk rfl rfl ?zh ?_|refine' gM rfl rfl rfl ?zh ?_);case zh=>intro F';first|exact bp rfl rfl iI (by first|assumption|omega|decide|rfl)|exact dv rfl rfl iI iI iI iI (by first|assumption|omega|(simp[al]<;>omega))|exact cW rfl rfl iI iI iI iI (by first|assumption|omega|(simp[al]<;>omega)))|((first|refine dn rfl rfl iI rfl ?_ ?_|refine dm rfl rfl iI rfl ?_ ?_|refine dU rfl rfl iI rfl ?_ ?_)<;>intro hc)|((first|refine' LQ ?zh rfl ?_|refine' gM rfl rfl rfl ?zh ?_);case zh=>intro F';exact bE rfl rfl iI)|(refine ai (dH (rows 28 3 Rec.cells v out) rfl rfl iI iI iI rfl iI iI cO (by first|omega|(simp[al]<;>omega)) rfl) rfl ?_;intro v4)|(refine ai (au Rec.cells [⟨true,0,seq⟩] iI iI iI rfl rfl rfl rfl rfl iI rfl rfl rfl) rfl ?_;intro vb)|(refine ai (aR rfl rfl iI iI rfl iI iI cO (by first|omega|(simp[al]<;>omega)) rfl) rfl ?_;intro v3))
    exact aC (.inl rfl) rfl rfl ⟨v4,rfl,by rw[eP];exact ah⟩
   ·by_cases ha:xa=0
    ·subst ha
     by_cases hs:xs<seq
     ·rw[sz hp hz ⟨rfl,rfl⟩,Kn hs]
      repeat' (first|refine ag (id:=5) (.range 18) ?_|refine ag (id:=6) (.range 8) ?_|(refine ab ?_;intro K hK)|(refine hK _ ?_;clear hK K)|refine ax ?_|(refine aF ?_ ?_<;>intro hc<;>(try simp only[cS]at hc)<;>(try exact aG))|refine az ?_|((first|refine' LQ ?zh rfl ?_|refine' bk rfl rfl ?zh ?_|refine' gM rfl rfl rfl ?zh ?_);case zh=>intro F';exact bp rfl rfl iI (by first|assumption|omega|decide|rfl))|(refine bL (dB (z:=⟨true,0,xs⟩) ⟨true,0,seq⟩ rfl rfl iI iI iI rfl (by assumption) rfl) ?_;intro g))
      exact aC (.inl rfl) rfl rfl ⟨v,rfl,ah⟩
     ·rw[sz hp hz ⟨rfl,rfl⟩,Gd hs,Dk hz]
      repeat' (first|refine ag (id:=5) (.range 18) ?_|refine ag (id:=6) (.range 8) ?_|(refine ab ?_;intro K hK)|(refine hK _ ?_;clear hK K)|refine ax ?_|(refine aF ?_ ?_<;>intro hc<;>(try simp only[cS]at hc)<;>(try exact aG))|refine az ?_|((first|refine' LQ ?zh rfl ?_|refine' bk rfl rfl ?zh ?_|refine' gM rfl rfl rfl ?zh ?_);case zh=>intro F';first|exact bp rfl rfl iI (by first|assumption|omega|decide|rfl)|exact bH rfl rfl iI (by first|assumption|omega|decide|rfl))|fail)
      exact aC (.inl rfl) rfl rfl ⟨v,rfl,ah⟩
    ·have eP:=ub hp hz (by simp_all) (by simp)
     refine cV (aq.nil _ 28 3 Rec.cells none) ?_
     have ht:(out.take j).length=j:=by simp;omega
     have sX:(out.drop j).length=out.length - j:=by simp
     repeat' (first|refine ag (id:=5) (.range 18) ?_|refine ag (id:=9) (.range 20) ?_|(refine ab ?_;intro K hK)|(refine hK _ ?_;clear hK K)|refine ax ?_|(refine aF ?_ ?_<;>intro hc<;>(try simp only[cS]at hc)<;>(try exact aG))|refine az ?_|((first|refine' LQ ?zh rfl ?_|refine' bk rfl rfl ?zh ?_|refine' gM rfl rfl rfl ?zh ?_);case zh=>intro F';first|exact bp rfl rfl iI (by first|assumption|omega|decide|rfl)|exact bH rfl rfl iI (by first|assumption|omega|decide|rfl)|exact dv rfl rfl iI iI iI iI (by first|assumption|omega|(simp[al]<;>omega))|exact cW rfl rfl iI iI iI iI (by first|assumption|omega|(simp[al]<;>omega)))|(refine ai (dH (rows 28 3 Rec.cells v out) rfl rfl iI iI iI rfl iI iI cO (by first|omega|(simp[al]<;>omega)) rfl) rfl ?_;intro v4)|(refine ai (au Rec.cells [⟨true,0,seq⟩] iI iI iI rfl rfl rfl rfl rfl iI rfl rfl rfl) rfl ?_;intro vb)|(refine ai (aR rfl rfl iI iI rfl iI iI cO (by first|omega|(simp[al]<;>omega)) rfl) rfl ?_;intro v3))
     exact aC (.inl rfl) rfl rfl ⟨v4,rfl,by rw[eP];exact ah⟩
  ·obtain rfl:j=out.length:=by omega
   have eP:=CY hp
   refine cV (aq.nil _ 28 3 Rec.cells none) ?_
   have ht:(out.take out.length).length=out.length:=by simp
   have sX:(out.drop out.length).length=out.length - out.length:=by simp
   repeat' (first|(refine ab ?_;intro K hK)|(refine hK _ ?_;clear hK K)|refine ax ?_|(refine aF ?_ ?_<;>intro hc<;>(try simp only[cS]at hc)<;>(try exact aG))|refine az ?_|((refine' LQ ?zh rfl ?_);case zh=>intro F';first|exact bH rfl rfl iI (by first|assumption|omega|decide|rfl)|exact dv rfl rfl iI iI iI iI (by first|assumption|omega|(simp[al]<;>omega))|exact cW rfl rfl iI iI iI iI (by first|assumption|omega|(simp[al]<;>omega)))|(refine ai (dH (rows 28 3 Rec.cells v out) rfl rfl iI iI iI rfl iI iI cO (by first|omega|(simp[al]<;>omega)) rfl) rfl ?_;intro v4)|(refine ai (au Rec.cells [⟨true,0,seq⟩] iI iI iI rfl rfl rfl rfl rfl iI rfl rfl rfl) rfl ?_;intro vb)|(refine ai (aR rfl rfl iI iI rfl iI iI cO (by first|omega|(simp[al]<;>omega)) rfl) rfl ?_;intro v3))
   exact aC (.inl rfl) rfl rfl ⟨v4,rfl,by rw[eP];exact ah⟩
end
section
open Go.RowKit
theorem DG {P:Program} {n:fT} {E:Env} {H:af} {w0:World} {d:Option Tmp} {t ty:TypeId} {pos:String} {after:Array Edge} {gu:Option (Nat×Bool)} {x y z:Operand} {a:List UInt8} {q q':IntKind} {i i':Int} {k k':Nat} (hx:E.ev x=some (aZ a)) (hy:E.ev y=some (.int q i)) (hz:E.ev z=some (.int q' i')) (hi:fB i k) (OD:fB i' k') (ht:eN P t .string) (hk:k≤k') (P5:k'≤a.length):cD P n w0 ⟨d,.slice t x (some y) (some z) none,ty,pos,after,gu⟩ E H (aZ ((a.drop k).take (k' - k))):=fun ac w s hs=>by
 obtain rfl:=hi.eq
 obtain rfl:=OD.eq
 have hr:=run_slice_string (P:=P) w t ⟨a.toArray⟩ q q' (k:Int) (k':Int) ht.eq (by omega) (by omega) (by show(k':Int)≤(a.length:Nat);omega)
 have e1:(⟨a.toArray⟩:ByteArray).extract k k'=⟨((a.drop k).take (k' - k)).toArray⟩:=by apply ByteArray.ext;simp
 simp only[execOp,s.ev hx,s.ev hy,s.ev hz,Option.map_some,Option.map_none,run_sliceAt_string w t _ _ _ _ ht.eq,Sem.run_bind,hr,Result.andThen_ok,Sem.run_pure,Int.toNat_natCast,e1]
attribute [local irreducible] WS LS cD eM cn cv Spec bA aK
variable (w0:World)
theorem D8 (l m:List UInt8) (hl:l.length≤1000000) (v u:Value) (X:af) [hX:eX w0 X v UInt8 1 bU l] [hY:eX w0 X u UInt8 1 bU m]:Spec Tryz.prog w0 112 [v,u] X (fun _:Unit=> .bool (decide (l=m))) (fun _=>X):=by
 refine Spec.enter Tryz.func112 rfl Tryz.ntmps112 rfl fun G=> ?_
 simp only[aN]
 repeat' (first|(refine ab ?_;intro K hK)|(refine hK _ ?_;clear hK K)|refine ax ?_|(refine aF ?_ ?_<;>intro hc<;>(try simp only[cS]at hc)<;>(try exact aG))|refine az ?_|((first|refine dn rfl rfl iI rfl ?_ ?_|refine dm rfl rfl iI rfl ?_ ?_|refine dU rfl rfl iI rfl ?_ ?_)<;>intro hc))
 rotate_left
 ·refine aC (.inl rfl) rfl rfl ⟨(),?_,aq.take aq.last⟩
  rw[decide_eq_false];rintro rfl;exact hc rfl
 refine aV (fun k τ=>∃j,j+k=l.length∧l.take j=m.take j∧τ=⟨[(13,.int .i64 (j:Int)),(12,.int .i64 (l.length:Int)),(0,v),(1,u)],[],X*G⟩) ?_ ?_
 ·exact⟨l.length,_,⟨0,by omega,rfl,rfl⟩,cG,rfl,aq.refl _⟩
 ·rintro k τ ⟨j,ym,hj,rfl⟩
  rcases Nat.lt_or_ge j l.length with bW|kQ
  ·obtain⟨z,hz⟩:∃z,l[j]? =some z:=⟨_,List.getElem?_eq_getElem bW⟩
   have J3:j<m.length:=by omega
   obtain⟨z',pF⟩:∃z,m[j]? =some z:=⟨_,List.getElem?_eq_getElem J3⟩
   repeat' (first|refine ag (id:=6) (.range 9) ?_|(refine ab ?_;intro K hK)|(refine hK _ ?_;clear hK K)|refine ax ?_|(refine aF ?_ ?_<;>intro hc<;>(try simp only[cS]at hc)<;>(try exact aG))|refine aX ?_|refine az ?_|((first|refine dn rfl rfl iI rfl ?_ ?_|refine dm rfl rfl iI rfl ?_ ?_|refine dU rfl rfl iI rfl ?_ ?_)<;>intro hc))
   ·refine aC (.inl rfl) rfl rfl ⟨(),?_,aq.take aq.last⟩
    rw[decide_eq_false];rintro rfl;rw[hz]at pF;cases pF;simp at hc
   ·exact⟨k - 1,_,by omega,⟨j+1,by omega,sN hj hz pF (by simpa using hc),rfl⟩,cG,rfl,aq.refl _⟩
  ·obtain rfl:j=l.length:=by omega
   have e:l=m:=by rw[List.take_length,List.take_of_length_le (by omega)]at hj;exact hj
   repeat' (first|(refine ab ?_;intro K hK)|(refine hK _ ?_;clear hK K)|refine ax ?_|(refine aF ?_ ?_<;>intro hc<;>(try simp only[cS]at hc)<;>(try exact aG))|refine aX ?_|refine az ?_)
   refine aC (.inl rfl) rfl rfl ⟨(),?_,aq.take aq.last⟩
   rw[decide_eq_true e]
theorem MI (o o':Bool) (x y x' y':Int) (w:World):
 (binOp .neq 28 (.agg #[.bool o,.int .u32 x,.int .u32 y]) (.agg #[.bool o',.int .u32 x',.int .u32 y'])).run Tryz.prog w= .ok (.bool (!(o==o'&&(x==x'&&y==y')))) w:=by
 have u4:=Tryz.underlying26
 have u1:=Tryz.underlying4
 have hS:Tryz.prog.underlying 28=some (.struct (Tryz.prog.fieldsOf 28)):=by kernel_rfl
 have hp:Tryz.prog.stoodInHeld 28=false:=by kernel_rfl
 rw[run_neq_struct,show(10000:Nat)=9999+1 from rfl,run_equalIn_agg w 9999 28 _ _ hS hp]
 simp only[Program.fieldsOf,Tryz.underlying28]
 by_cases h0:o=o'<;>by_cases h1:x=x'<;>by_cases h2:y=y'<;>go_simp
instance U4 (a b:Rec):dL Tryz.prog .neq 28 (.agg (Rec.cells a).toArray) (.agg (Rec.cells b).toArray) (.bool (!decide (a=b))):=⟨fun w=>by
 have h:=MI a.own b.own (a.addr.toNat:Int) (a.seq.toNat:Int) (b.addr.toNat:Int) (b.seq.toNat:Int) w
 have e:(a.own==b.own&&(((a.addr.toNat:Int)==(b.addr.toNat:Int))&&((a.seq.toNat:Int)==(b.seq.toNat:Int))))=decide (a=b):=by
  rw[Bool.eq_iff_iff]
  simp only[Bool.and_eq_true,beq_iff_eq,decide_eq_true_eq]
  constructor
  ·intro ⟨h0,h1,h2⟩
   have e1:a.addr=b.addr:=UInt32.toNat_inj.1 (by omega)
   have e2:a.seq=b.seq:=UInt32.toNat_inj.1 (by omega)
   cases a;cases b;simp_all
  ·rintro rfl;exact⟨rfl,rfl,rfl⟩
 rw[e]at h
 exact h,fun w x y=>by apply run_eqGuard_agg;kernel_rfl⟩
theorem Gg (x:UInt8):decide (x=1)=(((x.toNat:Nat):Int)==1):=by
 rw[Bool.eq_iff_iff];simp only[decide_eq_true_eq,beq_iff_eq]
 constructor
 ·rintro rfl;rfl
 ·intro h;apply UInt8.toNat_inj.1;show x.toNat=1;omega
theorem nQ (l:List UInt8) (i:Nat) (h:i+4≤l.length):bm (l.drop i) 0=bm l i:=by
 unfold bm dW
 simp[List.getD_eq_getElem?_getD]
theorem E4 (l:List UInt8) (h:13≤l.length):gy (l.take 13)=gy l:=by
 have e:∀i,i<13→dW (l.take 13) i=dW l i:=fun i hi=>by
  unfold dW;simp[List.getD_eq_getElem?_getD,List.getElem?_take,hi]
 unfold gy bm
 rw[e 0 (by omega),e 1 (by omega),e (1+1) (by omega),e (1+2) (by omega),e (1+3) (by omega),e 5 (by omega),e (5+1) (by omega),e (5+2) (by omega),e (5+3) (by omega)]
def yg (v:Value):Nat→Value
 |0=>v
 |j+1=>cq 1 (yg v j) 13
instance Qn {α:Type} {H:af} {v:Value} {f:α→List Value} {l:List α} (j:Nat) [h:eX w0 H v α 1 f l]:eX w0 H (yg v j) α 1 f (l.drop (13*j)):=by
 induction j with
 |zero=>exact h
 |succ j ih=>
  have:=zN (size:=1) (w0:=w0) (H:=H) (v:=yg v j) (f:=f) (l:=l.drop (13*j)) 13
  rw[List.drop_drop]at this
  exact this
theorem NC (xs:List UInt8) (js:List Rec) (k:Nat) (hj:ic xs=js++jL (xs.length / 13 - k) (xs.drop (13*k))) (bW:13*k+13≤xs.length) (hx:(gy (xs.drop (13*k))).bytes=(xs.drop (13*k)).take 13):
 ic xs=(js++[gy (xs.drop (13*k))])++jL (xs.length / 13 - (k+1)) (xs.drop (13*(k+1))):=
 E3 xs js k _ hj rfl (by omega) hx
theorem ND (xs:List UInt8) (js:List Rec) (k:Nat) (hj:ic xs=js++jL (xs.length / 13 - k) (xs.drop (13*k))) (hx:¬(gy (xs.drop (13*k))).bytes=(xs.drop (13*k)).take 13):ic xs=js:=by
 rw[hj,H2 _ _ hx,List.append_nil]
theorem C5 (xs:List UInt8) (js:List Rec) (k:Nat) (hj:ic xs=js++jL (xs.length / 13 - k) (xs.drop (13*k))) (h:¬13*k+13≤xs.length):ic xs=js:=by
 rw[hj,C6 _ _ (by simp;omega),List.append_nil]
theorem Fp (l:List UInt8) (hl:l.length≤1000000) (v:Value) (X:af) [hX:eX w0 X v UInt8 1 bU l]:Spec Tryz.prog w0 58 [v] X (fun m:Value=> .tuple #[m,.int .i64 (13*((ic l).length:Int))]) (fun m=>rows 28 3 Rec.cells m (ic l)*X):=by
 refine Spec.enter Tryz.func58 rfl Tryz.ntmps58 rfl fun G=> ?_
 simp only[aN]
 repeat' (first|(refine ab ?_;intro K hK)|(refine hK _ ?_;clear hK K)|refine ax ?_|refine az ?_)
 refine cV (aq.nil _ 28 3 Rec.cells none) ?_
 refine aV (fun m τ=>∃(j:Nat) (u:Value) (js:List Rec),j+m=l.length / 13∧js.length=j∧ic l=js++jL (l.length / 13 - j) (l.drop (13*j))∧τ=⟨[(5,yg v j),(4,u)],[],rows 28 3 Rec.cells u js*(X*G)⟩) ?_ ?_
 ·exact⟨l.length / 13,_,⟨0,_,[],by omega,rfl,by simp[ic],rfl⟩,cG,rfl,ah⟩
 ·rintro m τ ⟨j,u,js,SQ,P4,hj,rfl⟩
  have El:(l.drop (13*j)).length=l.length - 13*j:=by simp
  rcases Nat.lt_or_ge j (l.length / 13)with bW|kQ
  ·have TG:13*j+13≤l.length:=by omega
   have O5:((l.drop (13*j)).take 13).length=13:=by simp;omega
   have hz:((l.drop (13*j)).take 13)[0]? =some (dW (l.drop (13*j)) 0):=by
    rw[List.getElem?_take,if_pos (by omega)]
    exact fx (by omega)
   have OP:=oc w0 (((l.drop (13*j)).take 13).drop 1) (by simp;omega) (cq 1 (di (yg v j) 13) 1) (rows 28 3 Rec.cells u js*(X*G))
   have Us:=oc w0 (((l.drop (13*j)).take 13).drop 5) (by simp;omega) (cq 1 (di (yg v j) 13) 5) (rows 28 3 Rec.cells u js*(X*G))
   have hr:(⟨decide (dW (l.drop (13*j)) 0=1),bm (((l.drop (13*j)).take 13).drop 1) 0,bm (((l.drop (13*j)).take 13).drop 5) 0⟩:Rec)=gy (l.drop (13*j)):=by
    rw[←E4 (l.drop (13*j)) (by omega),Gg,nQ _ 1 (by omega),nQ _ 5 (by omega)]
    unfold gy
    congr 2
    unfold dW;simp[List.getD_eq_getElem?_getD,List.getElem?_take]
   have Ck:∀r',r'=gy (l.drop (13*j))→Spec Tryz.prog w0 31 [.agg r'.cells.toArray] emp (fun v':Value=>v') (fun v'=>rows 5 1 bU v' (gy (l.drop (13*j))).bytes):=by
    rintro _ rfl;exact oe w0 _
   have J6:=Ck _ hr
   have yl:(gy (l.drop (13*j))).bytes.length=13:=Rec.dz _
   repeat' (first|(refine ab ?_;intro K hK)|(refine hK _ ?_;clear hK K)|refine ax ?_|(refine aF ?_ ?_<;>intro hc<;>(try simp only[cS]at hc)<;>(try exact aG))|(refine aL iI rfl ?_;intro g)|refine aX ?_|refine az ?_|((first|refine' LQ ?zh rfl ?_|refine' bk rfl rfl ?zh ?_);case zh=>intro F';first|exact bE rfl rfl iI|exact dv rfl rfl iI iI iI iI (by first|assumption|omega|(simp[al]<;>omega))|exact cW rfl rfl iI iI iI iI (by first|assumption|omega|(simp[al]<;>omega)))|(refine bQ ?_;intro g)|(show WS _ _ _ (.region 6 _ true) _ _;refine BI [0,1,2,3,4,5,7,8,6,9,10,11,12] (by kernel_rfl) rfl ?_)|(refine Bx iI rfl OP rfl ?_)|(refine Bx iI rfl Us rfl ?_)|(refine ai (aa iI rfl J6 iI) rfl ?_;intro vb)|(refine ai (aa iI rfl (D8 w0 (gy (l.drop (13*j))).bytes ((l.drop (13*j)).take 13) (by omega) vb (di (yg v j) 13) (rows 5 1 bU vb (gy (l.drop (13*j))).bytes*X)) iI) rfl ?_;intro ue)|(refine ai (au Rec.cells [⟨decide (dW (l.drop (13*j)) 0=1),bm (((l.drop (13*j)).take 13).drop 1) 0,bm (((l.drop (13*j)).take 13).drop 5) 0⟩] iI iI iI rfl rfl rfl rfl rfl iI rfl rfl rfl) rfl ?_;intro vs)|(refine ai (aR rfl rfl iI iI rfl iI iI cO (by first|omega|(simp[al]<;>omega)) rfl) rfl ?_;intro va))
   ·have Eu:=ND l js j hj (by simpa using hc)
    rw[←Eu]
    exact de (.inl rfl) rfl rfl rfl ⟨u,by rw[Eu],by rw[Eu];exact ah⟩
   ·have Eu:=NC l js j hj TG (by simpa using hc)
    refine⟨m - 1,_,by omega,⟨j+1,va,js++[gy (l.drop (13*j))],by omega,by simp[P4],Eu,rfl⟩,cG,rfl,?_⟩
    rw[←hr]
    exact ah
  ·have Rs:¬13*j+13≤l.length:=by omega
   have Eu:=C5 l js j hj Rs
   repeat' (first|(refine ab ?_;intro K hK)|(refine hK _ ?_;clear hK K)|refine ax ?_|(refine aF ?_ ?_<;>intro hc<;>(try simp only[cS]at hc)<;>(try exact aG))|refine aX ?_|refine az ?_)
   subst P4
   rw[Eu]
   exact de (.inl rfl) rfl rfl rfl ⟨u,rfl,ah⟩
theorem Fc (l:List UInt8) (hl:l.length≤1000000):Spec Tryz.prog w0 92 [aZ l] emp (fun m:Value=> .tuple #[m,.int .i64 ((13*(ic l).length:Nat):Int)]) (fun m=>rows 28 3 Rec.cells m (ic l)):=by
 refine Spec.enter Tryz.func92 rfl Tryz.ntmps92 rfl fun G=> ?_
 simp only[aN]
 repeat' (first|(refine ab ?_;intro K hK)|(refine hK _ ?_;clear hK K)|refine ax ?_|refine az ?_)
 refine cV (aq.nil _ 28 3 Rec.cells none) ?_
 refine aV (fun m τ=>∃(j:Nat) (u:Value) (js:List Rec),j+m=l.length / 13∧js.length=j∧ic l=js++jL (l.length / 13 - j) (l.drop (13*j))∧τ=⟨[(0,aZ l),(5,.int .i64 ((13*j:Nat):Int)),(4,u)],[],rows 28 3 Rec.cells u js*(emp*G)⟩) ?_ ?_
 ·exact⟨l.length / 13,_,⟨0,_,[],by omega,rfl,by simp[ic],rfl⟩,cG,rfl,ah⟩
 ·rintro m τ ⟨j,u,js,SQ,P4,hj,rfl⟩
  have El:(l.drop (13*j)).length=l.length - 13*j:=by simp
  rcases Nat.lt_or_ge j (l.length / 13)with bW|kQ
  ·have TG:13*j+13≤l.length:=by omega
   have hz:l[13*j]? =some (dW l (13*j)):=fx (by omega)
   have OP:=cg w0 (l.drop (13*j+1)) (by simp;omega)
   have Us:=cg w0 (l.drop (13*j+5)) (by simp;omega)
   have hr:(⟨decide (dW l (13*j)=1),bm (l.drop (13*j+1)) 0,bm (l.drop (13*j+5)) 0⟩:Rec)=gy (l.drop (13*j)):=by
    have e1:=nQ (l.drop (13*j)) 1 (by omega)
    have e5:=nQ (l.drop (13*j)) 5 (by omega)
    rw[List.drop_drop]at e1 e5
    rw[e1,e5,Gg]
    unfold gy
    congr 2
    unfold dW;simp[List.getD_eq_getElem?_getD]
   have Ck:∀r',r'=gy (l.drop (13*j))→Spec Tryz.prog w0 91 [.agg r'.cells.toArray] emp (fun _:Unit=>aZ (gy (l.drop (13*j))).bytes) (fun _=>emp):=by
    rintro _ rfl;exact mz w0 _
   have J6:=Ck _ hr
   have yl:(gy (l.drop (13*j))).bytes.length=13:=Rec.dz _
   have QI:13*j+13 - 13*j=13:=by omega
   repeat' (first|refine ae (id:=4) [0,1,2,3,4,5,6,7,9,10,11,12,8,13,14,15,16] 16 [2,7,11] ?_|refine cK (id:=4) 6 [0,1,2,3,4,5,6,7,9,10,11,12,8,13,14,15,16] 16 [] ?_|(refine ab ?_;intro K hK)|(refine hK _ ?_;clear hK K)|refine ax ?_|(refine aF ?_ ?_<;>intro hc<;>(try simp only[cS]at hc)<;>(try exact aG))|(refine aL iI rfl ?_;intro g)|refine aX ?_|refine az ?_|((first|refine' LQ ?zh rfl ?_|refine' bP rfl rfl rfl ?zh ?_|refine' bk rfl rfl ?zh ?_);case zh=>intro F';first|exact bE rfl rfl iI|exact eH rfl rfl iI iI (by assumption)|exact dC rfl rfl iI iI (by first|assumption|omega))|(refine bQ ?_;intro g)|(refine aD (aa iI rfl OP iI) rfl rfl rfl ?_;intro u1)|(refine aD (aa iI rfl Us iI) rfl rfl rfl ?_;intro u5)|(refine lI (DG rfl rfl rfl iI iI iI (by omega) (by omega)) rfl ?_)|(refine ai (aa iI rfl J6 iI) rfl ?_;intro vb)|(refine ai (au Rec.cells [⟨decide (dW l (13*j)=1),bm (l.drop (13*j+1)) 0,bm (l.drop (13*j+5)) 0⟩] iI iI iI rfl rfl rfl rfl rfl iI rfl rfl rfl) rfl ?_;intro vs)|(refine ai (aR rfl rfl iI iI rfl iI iI cO (by first|omega|(simp[al]<;>omega)) rfl) rfl ?_;intro va))
   all_goals rw[QI]at hc
   ·have Eu:=ND l js j hj (by simpa using hc)
    rw[←Eu]
    exact de (.inl rfl) rfl rfl rfl ⟨u,by rw[Eu,P4],by rw[Eu];exact ah⟩
   ·have Eu:=NC l js j hj TG (by simpa using hc)
    refine⟨m - 1,_,by omega,⟨j+1,va,js++[gy (l.drop (13*j))],by omega,by simp[P4],Eu,rfl⟩,⟨rfl,by rw[Nat.mul_succ];rfl,rfl,trivial⟩,rfl,?_⟩
    rw[←hr]
    exact ah
  ·have Rs:¬13*j+13≤l.length:=by omega
   have Eu:=C5 l js j hj Rs
   repeat' (first|(refine ab ?_;intro K hK)|(refine hK _ ?_;clear hK K)|refine ax ?_|(refine aF ?_ ?_<;>intro hc<;>(try simp only[cS]at hc)<;>(try exact aG))|refine aX ?_|refine az ?_)
   subst P4
   rw[Eu]
   exact de (.inl rfl) rfl rfl rfl ⟨u,rfl,ah⟩
theorem eE {α:Type} {p:List α→Prop} (l:List α) (nil:p []) (snoc:∀l x,p l→p (l++[x])):p l:=by
 suffices h:∀m:List α,p m.reverse by simpa using h l.reverse
 intro m
 induction m with
 |nil=>exact nil
 |cons x m ih=>rw[List.reverse_cons];exact snoc _ _ ih
theorem C1 (l:List Rec) (r:Rec):(gP l r).length≤l.length+1:=by
 induction l with
 |nil=>simp[gP]
 |cons x l ih=>
  rw[gP]
  split
  ·simp
  ·split
   ·simp
   ·simp;omega
theorem iM (l:List Rec):(cC l).length≤l.length:=by
 induction l using eE with
 |nil=>simp[cC]
 |snoc l r ih=>rw[wT];have:=C1 (cC l) r.norm;simp;omega
theorem KM (v:Value) (out:List Rec) (hl:out.length≤100000) (r:Rec):Spec Tryz.prog w0 199 [v,.agg r.cells.toArray] (rows 28 3 Rec.cells v out) (fun v':Value=>v') (fun v'=>rows 28 3 Rec.cells v' (gP out r.norm)):=by
 obtain⟨o,a,s⟩:=r
 cases o
 ·exact HP w0 v out hl a s
 ·exact KO w0 v out hl a s
theorem mI (l:List Rec) (hl:l.length≤100000) (v:Value) (X:af) [hX:eX w0 X v Rec 3 Rec.cells l]:Spec Tryz.prog w0 149 [v] X (fun m:Value=>m) (fun m=>rows 28 3 Rec.cells m (cC l)*X):=by
 refine Spec.enter Tryz.func149 rfl Tryz.ntmps149 rfl fun G=> ?_
 simp only[aN]
 repeat' (first|(refine ab ?_;intro K hK)|(refine hK _ ?_;clear hK K)|refine ax ?_|refine az ?_)
 refine cV (aq.nil _ 28 3 Rec.cells none) ?_
 refine aV (fun m τ=>∃(j:Nat) (u:Value),j+m=l.length∧τ=⟨[(0,v),(4,.int .i64 (j:Int)),(3,u)],[],rows 28 3 Rec.cells u (cC (l.take j))*(X*G)⟩) ?_ ?_
 ·exact⟨l.length,_,⟨0,_,by omega,rfl⟩,cG,rfl,ah⟩
 ·rintro m τ ⟨j,u,SQ,rfl⟩
  rcases Nat.lt_or_ge j l.length with bW|kQ
  ·obtain⟨z,hz⟩:∃z,l[j]? =some z:=⟨_,List.getElem?_eq_getElem bW⟩
   have hb:(cC (l.take j)).length≤100000:=Nat.le_trans (iM _) (by simp;omega)
   have qa:=KM w0 u (cC (l.take j)) hb z
   repeat' (first|(refine ab ?_;intro K hK)|(refine hK _ ?_;clear hK K)|refine ax ?_|(refine aF ?_ ?_<;>intro hc<;>(try simp only[cS]at hc)<;>(try exact aG))|refine aX ?_|refine az ?_|(refine ai (aa iI rfl qa iI) rfl ?_;intro u2))
   refine⟨m - 1,_,by omega,⟨j+1,u2,by omega,rfl⟩,cG,rfl,?_⟩
   rw[List.take_add_one,hz,Option.toList_some,wT]
   exact ah
  ·obtain rfl:j=l.length:=by omega
   rw[List.take_length]
   repeat' (first|(refine ab ?_;intro K hK)|(refine hK _ ?_;clear hK K)|refine ax ?_|(refine aF ?_ ?_<;>intro hc<;>(try simp only[cS]at hc)<;>(try exact aG))|refine aX ?_|refine az ?_)
   exact aC (.inl rfl) rfl rfl ⟨u,rfl,ah⟩
end
section
open Go.RowKit
theorem B5 {P:Program} {κ ν:Type} [DecidableEq κ] {fk:κ→Value} {fv:ν→Value} {kt:TypeId} (heq:∀a b w,(Op.equal kt (fk a) (fk b)).run P w= .ok (decide (a=b)) w) (k:κ) (w:World):∀(m:List (κ×ν)) (es:List MapEntry) (i:Nat),es.map (fun e=>(e.key,e.val))=m.map (fun p=>(fk p.1,fv p.2))→
 (Instr.findAsking kt (fk k) es i).run P w= .ok ((dT m k).bind fun j=>(m[j]?).map fun p=>(i+j,fv p.2)) w
 |[],es,i,h=>by
  have:es=[]:=by simpa using h
  subst this;rfl
 |p::m,[],i,h=>by simp at h
 |p::m,e::es,i,h=>by
  simp only[List.map_cons,List.cons.injEq,Prod.mk.injEq]at h
  obtain⟨⟨h1,h2⟩,h3⟩:=h
  have ih:=B5 heq k w m es (i+1) h3
  simp only[Instr.findAsking,h1,Sem.run_bind,heq,Result.andThen_ok]
  by_cases he:k=p.1
  ·subst he
   simp[dT,h2]
  ·rw[decide_eq_false he]
   simp only[Bool.false_eq_true,if_false,ih,dT,Ne.symm he]
   cases dT m k with
   |none=>rfl
   |some j=>simp[Nat.add_assoc,Nat.add_comm 1 j]
theorem Cr {P:Program} {κ:Type} {fk:κ→Value} {kt:TypeId} {fs:Array Field} (hu:P.underlying kt=some (.struct fs)) (heq:∀(d:DecidableEq κ) a b w,(Op.equal kt (fk a) (fk b)).run P w= .ok (decide (a=b)) w)
 (hc:∀(empty:Bool) (k:κ) (w:World),(Instr.checkKey empty 10000 kt (fk k)).run P w= .ok () w) (hs:∀k:κ,Instr.sameBits 10000 (fk k) (fk k)=true):ou P kt fk where
 check:=hc
 same:=hs
 find:=fun {_} {ν} fv m k es w h=>by
  have:=B5 (fk:=fk) (fv:=fv) (heq inferInstance) k w m es 0 h
  cases es with
  |nil=>
   have hm:m=[]:=by simpa using h.symm
   subst hm
   simp[Instr.findKey,run_underlying hu,Instr.findNow,dT]
  |cons e es=>
   simp only[Instr.findKey,Sem.run_bind,run_underlying hu,Result.andThen_ok]
   have e0:Instr.findNow (.struct fs) (fk k) (e::es) 0=none:=by simp[Instr.findNow,Instr.sameNow]
   rw[e0]
   simp only[this,Nat.zero_add]
theorem L5 (empty:Bool) (n:Nat) (o:Bool) (w:World):(Instr.checkKey empty (n+1) 4 (.bool o)).run Tryz.prog w= .ok () w:=by
 have u1:=Tryz.underlying4
 unfold Instr.checkKey
 go_simp
theorem FL (empty:Bool) (n:Nat) (x:Int) (w:World):(Instr.checkKey empty (n+1) 26 (.int .u32 x)).run Tryz.prog w= .ok () w:=by
 have u1:=Tryz.underlying26
 unfold Instr.checkKey
 go_simp
theorem H4 (empty:Bool) (o:Bool) (x y:Int) (w:World):(Instr.checkKey empty 10000 28 (.agg #[.bool o,.int .u32 x,.int .u32 y])).run Tryz.prog w= .ok () w:=by
 have u4:=Tryz.underlying26
 have u1:=Tryz.underlying4
 have hS:=Tryz.underlying28
 have c1:=L5 empty 9998 o
 have c2:=FL empty 9998
 rw[show(10000:Nat)=9999+1 from rfl]
 unfold Instr.checkKey
 go_simp
theorem MH (o o':Bool) (x y x' y':Int) (w:World):
 (Op.equal 28 (.agg #[.bool o,.int .u32 x,.int .u32 y]) (.agg #[.bool o',.int .u32 x',.int .u32 y'])).run Tryz.prog w= .ok (o==o'&&(x==x'&&y==y')) w:=by
 have u4:=Tryz.underlying26
 have u1:=Tryz.underlying4
 have hS:Tryz.prog.underlying 28=some (.struct (Tryz.prog.fieldsOf 28)):=by kernel_rfl
 have hp:Tryz.prog.stoodInHeld 28=false:=by kernel_rfl
 rw[show Op.equal 28=Op.equalIn (9999+1) 28 from rfl,run_equalIn_agg w 9999 28 _ _ hS hp]
 simp only[Program.fieldsOf,Tryz.underlying28]
 by_cases h0:o=o'<;>by_cases h1:x=x'<;>by_cases h2:y=y'<;>go_simp
@[reducible] def sc (r:Rec):Value:= .agg r.cells.toArray
instance:ou Tryz.prog 28 sc:=Cr (fs:=Tryz.prog.fieldsOf 28) (by kernel_rfl) (fun _ a b w=>by
 have h:=MH a.own b.own (a.addr.toNat:Int) (a.seq.toNat:Int) (b.addr.toNat:Int) (b.seq.toNat:Int) w
 have e:(a.own==b.own&&(((a.addr.toNat:Int)==(b.addr.toNat:Int))&&((a.seq.toNat:Int)==(b.seq.toNat:Int))))=decide (a=b):=by
  rw[Bool.eq_iff_iff]
  simp only[Bool.and_eq_true,beq_iff_eq,decide_eq_true_eq]
  constructor
  ·intro ⟨h0,h1,h2⟩
   have e1:a.addr=b.addr:=UInt32.toNat_inj.1 (by omega)
   have e2:a.seq=b.seq:=UInt32.toNat_inj.1 (by omega)
   cases a;cases b;simp_all
  ·rintro rfl;exact⟨rfl,rfl,rfl⟩
 rw[e]at h
 exact h) (fun empty k w=>H4 empty k.own _ _ w) (fun k=>by
 show Instr.sameBits (9999+1) (.agg #[.bool k.own,u32 k.addr,u32 k.seq]) (.agg #[.bool k.own,u32 k.addr,u32 k.seq])=true
 simp[Instr.sameBits,u32])
instance (o:Bool) (v1 v2:Value) (a b:UInt32) [h1:ej v1 a] [h2:ej v2 b]:hU sc (.agg #[.bool o,v1,v2]) ⟨o,a,b⟩:=⟨by rw[h1.eq,h2.eq];rfl⟩
end
section
open Go.RowKit Go.Shelf
open Go.Sort (flatK HoldsK get_flatK)
set_option maxRecDepth 100000
theorem Mz (x:Int) (W:World):Calls Tryz.prog 204 #[.int .u32 x] W fun e w'=>e= .returned (.bool false)∧w'=W:=by
 go_enter Tryz.func204,Tryz.ntmps204
 go_wp2_with fail
 go_ret
 simp
def D0 (x y:Int):Int:=if x<y then -1 else if y<x then 1 else 0
theorem L8 (x y:Int) (W:World):Calls Tryz.prog 159 #[.int .u32 x,.int .u32 y] W fun e w'=>e= .returned (.int .i64 (D0 x y))∧w'=W:=by
 have hn:=Mz
 go_enter Tryz.func159,Tryz.ntmps159
 go_wp2_with (go_at_call 204;refine(hn _ _).mono ?_;rintro e w' ⟨rfl,rfl⟩)
 all_goals go_ret
 all_goals first|omega|(simp_all [D0];done)|(simp_all [D0];omega)
theorem Og (a b:UInt32):D0 (a.toNat:Int) (b.toNat:Int)=L7 a b:=by
 unfold D0 L7
 simp only[UInt32.lt_iff_toNat_lt,Int.ofNat_lt]
theorem L6 (o1 o2:Bool) (x y s1 s2:Int) (W:World):Calls Tryz.prog 158 #[.agg #[.bool o1,.int .u32 x,.int .u32 s1],.agg #[.bool o2,.int .u32 y,.int .u32 s2]] W fun e w'=>e= .returned (.int .i64 (if o1 !=o2 then(if o1 then -1 else 1)else D0 x y))∧∃q Va,w'=Go.Sort.grow (W.drewN q) Va:=by
 have AI:=fun W'=>L8 x y W'
 generalize D0 x y=r at AI ⊢
 go_enter Tryz.func158,Tryz.ntmps158
 go_wp2_with (go_at_call 159;refine(AI _).mono ?_;rintro e w' ⟨rfl,rfl⟩)
 all_goals try go_ret
 all_goals(refine⟨?_,0,_,by rw[Go.Sort.alloc_eq_grow,Go.Sort.alloc_eq_grow,Go.Sort.grow_grow];rfl⟩)
 all_goals(show Ending.returned (Value.int _ _)=_;clear AI;cases o1<;>cases o2<;>first|rfl|contradiction)
theorem Jv (a b:Rec) (W:World):Calls Tryz.prog 158 (#[.agg a.cells.toArray,.agg b.cells.toArray]++ #[]) W fun e w'=>e= .returned (.int .i64 (tp a b))∧∃q Va,w'=Go.Sort.grow (W.drewN q) Va:=by
 have h:=L6 a.own b.own a.addr.toNat b.addr.toNat a.seq.toNat b.seq.toNat W
 rw[Og]at h
 exact h
instance:Inhabited Rec:=⟨⟨false,0,0⟩⟩
theorem zi (l:List Rec) (j:Nat) (h:j<l.length*3):(flatK Rec.cells 3 l.toArray)[j]! =(l.flatMap Rec.cells)[j]'(by rw[bZ Rec.cells 3 (fun _=>rfl)];exact h):=by
 have hq:j / 3<l.length:=by omega
 rw[get_flatK _ _ _ _ (by simpa using h)]
 have h2:=nN Rec.cells 3 (fun _=>rfl) l (j / 3) (j % 3) l[j / 3] (by simp[hq]) (by omega)
 rw[show j / 3*3+j % 3=j by omega]at h2
 have h3:=List.getElem?_eq_getElem (l:=l.flatMap Rec.cells) (i:=j) (by rw[bZ Rec.cells 3 (fun _=>rfl)];exact h)
 rw[h3]at h2
 have h4:l.toArray[j / 3]! =l[j / 3]:=by simp[hq]
 rw[h4]
 have h5:j % 3<(Rec.cells l[j / 3]).length:=by show j % 3<3;omega
 rw[List.getElem?_eq_getElem h5]at h2
 rw[getElem!_pos (Rec.cells l[j / 3]) (j % 3) h5]
 exact(Option.some.inj h2).symm
theorem Sat.Sp {w0 w:World} {e:TypeId} {g off cap:Nat} {l l':List Rec} {F:af} (n:Nat) (os:Array Obj) (hs:Sat w0 w (rows e 3 Rec.cells (.slice (some ⟨g,off,none⟩) l.length cap) l*F)) (hn:0<l.length) (hl:l'.length=l.length):
 Sat w0 (sortWorldK Rec.cells 3 w g off n l'.toArray os) (rows e 3 Rec.cells (.slice (some ⟨g,off,none⟩) l.length cap) l'*F):=by
 obtain⟨hx,⟨A,hv,h0,_⟩|⟨g',Pw,Oe,cur,fr,hv,hle,hm,hc,ht,hf,hp⟩⟩:=hs.jN
 ·omega
 injection hv with e1 _ e3
 injection e1 with e1
 injection e1 with e1 e2
 subst e1;subst e2;subst e3
 have hg:=hp.at_
 let G7:Array Value:=Go.Sort.putCells id off (flatK Rec.cells 3 l'.toArray) cur
 have rZ:G7.size=cur.size:=by simp[G7,Go.Sort.putCells]
 have bW:g<w.heap.size:=hp.lt
 have ma:Sat w0 (sortWorldK Rec.cells 3 w g off n l'.toArray os) (pM g (.cells G7 e fr)*F):=by
  refine Sat.put hp rfl rfl rfl ?_ fun k hk mi=> ?_
  ·show((w.heap.modify g _)++os)[g]? =_
   rw[Array.getElem?_append_left (by simpa using bW),Array.getElem?_modify,if_pos rfl,hg]
   rfl
  ·show((w.heap.modify g _)++os)[k]? =_
   rw[Array.getElem?_append_left (by simpa using hk),Array.getElem?_modify,if_neg (Ne.symm mi)]
 unfold rows
 rw[hl]
 refine Sat.yc e 3 l.length g off cap G7 fr _ ma ?_ hle hm (by rw[rZ];exact hc) ?_ hf
 ·rw[bZ Rec.cells 3 (fun _=>rfl),hl]
 ·have XQ:l.length*3≤cap*3:=Nat.mul_le_mul_right _ hle
  apply List.ext_getElem?
  intro j
  rw[List.getElem?_take]
  by_cases hj:j<l.length*3
  ·rw[if_pos hj,List.getElem?_drop,Array.getElem?_toList]
   have XK:off+j<cur.size:=by omega
   have qF:j<l'.length*3:=by rw[hl];exact hj
   have h1:G7[off+j]? =some ((flatK Rec.cells 3 l'.toArray)[j]!):=by
    simp only[G7,Go.Sort.putCells,Array.getElem?_mapIdx]
    rw[Array.getElem?_eq_getElem XK]
    simp only[Option.map_some,id]
    rw[if_pos ⟨by omega,by simp;omega⟩,Nat.add_sub_cancel_left]
   rw[h1,zi l' j qF,←List.getElem?_eq_getElem]
  ·rw[if_neg hj]
   symm
   apply List.getElem?_eq_none
   rw[bZ Rec.cells 3 (fun _=>rfl),hl];omega
theorem KI {l:List Rec} {d':Array Rec} (h:Go.Sort.PermIn 0 l.toArray.size l.toArray d'):d'.toList.Perm l:=by
 obtain⟨h1,_,h3⟩:=h
 have e1:d'.extract 0 l.toArray.size=d':=by rw[←h1];simp
 have e2:l.toArray.extract 0 l.toArray.size=l.toArray:=by simp
 rw[e1,e2]at h3
 simpa using h3
theorem Fi {l:List Rec} {d':Array Rec} (hz:d'.size=l.length) (h:Go.Sort.SortedIn (Go.Proofs.ltOf tp) 0 l.toArray.size d'):d'.toList.Pairwise (fun a b=>b.lt a=false):=by
 rw[List.pairwise_iff_getElem]
 intro i j hi hj OE
 have:=h i j (Nat.zero_le _) OE (by simp at hj ⊢;omega)
 rw[py]at this
 simp only[Array.length_toList]at hi hj
 rw[getElem!_pos d' i hi,getElem!_pos d' j hj]at this
 simpa using this
structure Ac (l:List Rec) where
 l':List Rec
 perm:l'.Perm l
 fH:l'.Pairwise (fun a b=>b.lt a=false)
theorem Fh (w0:World) (v:Value) (l:List Rec) (hl:l.length≤1000000):Spec Tryz.prog w0 202 [v,.func (.func 158) #[] #[]] (rows 28 3 Rec.cells v l) (fun _:Ac l=> .tuple #[]) (fun s=>rows 28 3 Rec.cells v s.l'):=by
 intro G w hs
 rcases Nat.eq_zero_or_pos l.length with h0|rX
 ·obtain rfl:=List.eq_nil_of_length_eq_zero h0
  obtain⟨A,c,rfl⟩:=gz hs
  have:=AnyF.slices_SortFunc_none yd A c (.func (.func 158) #[] #[]) w
  refine Calls.mono (this) ?_
  rintro e w' ⟨rfl,rfl⟩
  exact⟨⟨[],.refl _,.nil⟩,rfl,hs⟩
 ·have mi:l.flatMap Rec.cells≠[]:=by
   intro e0
   have:=bZ Rec.cells 3 (fun _=>rfl) l
   rw[e0]at this
   simp at this;omega
  obtain⟨g,off,cap,rfl,hle,hm,hc⟩:=Sat.Dl hs mi
  have hH:HoldsK Rec.cells 3 w g off l.toArray:=by
   intro j hj
   have qF:j<l.length*3:=by simpa using hj
   have:=hc j ((l.flatMap Rec.cells)[j]'(by rw[bZ Rec.cells 3 (fun _=>rfl)];exact qF)) (List.getElem?_eq_getElem _)
   rw[zi l j qF]
   exact this
  have hblk:g<w.heap.size:=by
   have:=(hc 0 ((l.flatMap Rec.cells)[0]'(List.length_pos_iff.2 mi)) (List.getElem?_eq_getElem _)).1
   unfold World.cell? at this
   rcases Nat.lt_or_ge g w.heap.size with bW|kQ
   ·exact bW
   ·simp[Array.getElem?_eq_none kQ]at this
  have eg:∀args w,(callFunc 158 args).run Tryz.prog w= .ok (.enter 158 args) w:=enters_of Tryz.func158 (by kernel_rfl) rfl
  have AI:=AnyQ.slices_SortFunc yd 3 Tryz.isAgg28 Tryz.sizeOf28 Rec.cells (fun _=>rfl) (fun z v hv=>by simp[Rec.cells]at hv;rcases hv with rfl|rfl|rfl<;>rfl) tp MS 158 #[] g off cap l.toArray w eg (fun _ _ _ _ x y=>Jv x y _) hH hblk (by simp;omega)
  refine Calls.mono (AI) ?_
  rintro e w' ⟨rfl,d',n,os,hp,Hq,rfl⟩
  have hz:d'.size=l.length:=by simpa using hp.1
  refine⟨⟨d'.toList,KI hp,Fi hz Hq⟩,rfl,?_⟩
  exact Sat.Sp n os hs rX (by simpa using hz)
end
end Go.Proofs.YtapoehkdnglahabGreat

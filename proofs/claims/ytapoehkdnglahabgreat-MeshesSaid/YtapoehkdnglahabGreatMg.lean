/- A part. -/
import Derived.Test.YtapoehkdnglahabGreatMd
set_option maxHeartbeats 8000000
set_option maxRecDepth 100000
set_option linter.all false
namespace Go.Proofs.YtapoehkdnglahabGreat
section
def dZ (l:List UInt8):Nat->List (UInt32×UInt32)
 |0=>[]
 |n+1=>dZ l n++[(bm l (8*n),bm l (8*n+4))]
theorem jZ (l n):(dZ l n).length=n:=by
 induction n with
 |zero=>rfl
 |succ n ih=>simp[dZ,ih]
def Pk.body (bK kind:UInt8) (flag n:UInt8) (l:List UInt8):Option Pk:=
 if kind=1 then
  if l.length=20/\(flag=0\/(flag=8/\bm l 8=0))then some ⟨bK.toNat,1,n.toNat,decide (flag=8),bm l 0,bm l 4,bm l 8,bm l 12,bm l 16,0,[],[]⟩else none
 else if kind=2 then
  if l.length=16/\flag=0 then some ⟨bK.toNat,2,n.toNat,false,0,bm l 0,bm l 4,bm l 8,0,bm l 12,[],[]⟩else none
 else if kind=3 then
  if 1<=n.toNat/\n.toNat<=8/\l.length=8*n.toNat/\flag=0 then some ⟨bK.toNat,3,0,false,0,0,0,0,0,0,dZ l n.toNat,[]⟩else none
 else if kind=9 then
  if n.toNat<=16/\l.length=12+n.toNat/\flag=0 then some ⟨bK.toNat,9,0,false,bm l 0,bm l 4,0,bm l 8,0,0,[],l.drop 12⟩else none
 else none
def Pk.dec:List UInt8->Option Pk
 |t::k::f::z::n::l=>if z=0/\t≠0 then Pk.body t k f n l else none
 |_=>none
theorem tX (k) (pre post:List UInt8) (n) (hn:n=pre.length):bm (pre++(be k++post)) n=k:=by
 subst hn;have e:∀j,dW (pre++(be k++post)) (pre.length+j)=dW (be k++post) j:=λj=>by
  rw[dW,Zq (by omega),uca];rfl
 have e0:=e 0;rw[uay]at e0;rw[bm,e0,e 1,e 2,e 3];exact Pv k
theorem FJ (m) (h0:0<=m) (h:m<=255):((b8 m).toNat:Int)=m:=by
 unfold b8;simp;omega
theorem wL (l:List UInt8) (i) (h:i+4<=l.length):be (bm l i)=(l.drop i).take 4:=by
 rw[bm,Ob];apply zD;intro j;rw[G3,Lf];have g:∀k,i+k<l.length->l[i+k]? =some (dW l (i+k)):=λk hk=>by simp[dW,hk]
 match j with
 |0=>simpa using(g 0 (by omega)).symm
 |1=>simpa using(g 1 (by omega)).symm
 |2=>simpa using(g 2 (by omega)).symm
 |3=>simpa using(g 3 (by omega)).symm
 |j+4=>simp;omega
theorem AN (a b):gi (a++b)=gi a++gi b:=by simp[gi]
theorem qj (l:List UInt8):∀n,8*n<=l.length->gi (dZ l n)=l.take (8*n)
 |0,_=>by simp[dZ,gi]
 |n+1,h=>by
  rw[dZ,AN,qj l n (by omega)];have e:gi [(bm l (8*n),bm l (8*n+4))]=(l.drop (8*n)).take 8:=by
   simp only[gi,RM,uas,rL];rw[wL l _ (by omega),wL l _ (by omega),<-uax];exact(ucu (i:=4) (j:=4)).symm
  rw[e,show 8*(n+1)=8*n+8 by omega];exact(ucu (i:=8*n) (j:=8)).symm
theorem qk:∀(x:List (UInt32×UInt32)) (post:List UInt8) (n:Nat),n<=x.length->dZ (gi x++post) n=x.take n
 |x,post,0,_=>by simp[dZ]
 |x,post,n+1,h=>by
  rw[dZ,qk x post n (by omega),AP];obtain⟨z,hz⟩:∃z,x[n]? =some z:=⟨_,aX (by omega)⟩
  have hx:gi x=gi (x.take n)++(be z.1++(be z.2++gi (x.drop (n+1)))):=by
   have h1:x=x.take n++(z::x.drop (n+1)):=by
    have:=(az.1 hz).2;rw[<-this,uae,Jt]
   conv=>lhs;rw[h1]
   simp[gi]
  have hl:=jY (x.take n);have hn:(x.take n).length=n:=by simp;omega
  rw[hn]at hl;have e1:bm (gi x++post) (8*n)=z.1:=by
   rw[hx,EK,EK];exact tX _ _ _ _ hl.symm
  have e2:bm (gi x++post) (8*n+4)=z.2:=by
   have:gi x++post=(gi (x.take n)++be z.1)++(be z.2++(gi (x.drop (n+1))++post)):=by rw[hx];simp
   rw[this];exact tX _ _ _ _ (by simp[hl,al])
  rw[e1,e2,hz];rfl
theorem EX (ks post i k) (h:ks[i]? =some k):bm (fA ks++post) (4*i)=k:=by
 have hx:fA ks++post=fA (ks.take i)++(be k++(fA (ks.drop (i+1))++post)):=by
  have h1:ks=ks.take i++(k::ks.drop (i+1)):=by
   have hi:=(az.1 h).1;have:=(az.1 h).2;rw[<-this,uae,Jt]
  conv=>lhs;rw[h1]
  simp[fA]
 have hl:∀l:List UInt32,(fA l).length=4*l.length:=by
  intro l;induction l with
  |nil=>rfl
  |cons a l ih=>simp[fA,al]at ih ⊢;omega
 rw[hx];exact tX _ _ _ _ (by rw[hl,Aw];have:=(az.1 h).1;omega)
theorem Pk.G9 {p:Pk} (h:p.Fits):Pk.dec p.bytes=some p:=by
 obtain⟨bK,kind,aH,unknown,id,dest,ak,from_,av,bD,lost,ar⟩:=p;obtain⟨⟨t1,t2,h1,h2,h3,h4⟩,hk⟩:=h;dsimp only at t1 t2 h1 h2 h3 h4 hk;have e1:=FJ bK (by omega) t2;have e2:=FJ aH h1 h2;have e3:b8 bK≠0:=by intro e;rw[e]at e1;simp at e1;omega
 rcases hk with ⟨rfl,rfl,hl,rfl,hu⟩|⟨rfl,rfl,rfl,rfl,hl,rfl⟩|⟨rfl,rfl,rfl,rfl,rfl,rfl,rfl,hl,rfl,rfl,rfl⟩|⟨rfl,rfl,rfl,rfl,rfl,rfl,hl⟩
 ·obtain rfl:lost=[]:=HD hl;have n:=EX [id,dest,ak,from_,av] [];simp only[fA,RM,uas,rL]at n;have n0:=n 0 id rfl;have n1:=n 1 dest rfl;have n2:=n 2 ak rfl;have n3:=n 3 from_ rfl;have n4:=n 4 av rfl;simp only[ubC,Nat.reduceMul]at n0 n1 n2 n3 n4;cases unknown<;>simp_all [Pk.bytes,Pk.dec,Pk.body,al]
 ·obtain rfl:lost=[]:=HD hl;have n:=EX [dest,ak,from_,bD] [];simp only[fA,RM,uas,rL]at n;have n0:=n 0 dest rfl;have n1:=n 1 ak rfl;have n2:=n 2 from_ rfl;have n3:=n 3 bD rfl;simp only[ubC,Nat.reduceMul]at n0 n1 n2 n3;simp_all [Pk.bytes,Pk.dec,Pk.body,al]
 ·have e4:=FJ (lost.length:Int) (by omega) (by omega);have e5:(b8 (lost.length:Int)).toNat=lost.length:=by omega
  have e6:=qk lost [] lost.length (uL _);rw[rL,PE]at e6;have e7:=jY lost;simp only[Pk.bytes,Pk.dec,Pk.body];simp[e3,e5,e6,e7,h4,e1,show 1<=lost.length by omega]
 ·obtain rfl:lost=[]:=HD hl;have e4:=FJ (ar.length:Int) (by omega) (by omega);have e5:(b8 (ar.length:Int)).toNat=ar.length:=by omega
  have n:=EX [id,dest,from_] ar;simp only[fA,RM,uas,rL,EK]at n;have n0:=n 0 id rfl;have n1:=n 1 dest rfl;have n2:=n 2 from_ rfl;simp only[ubC,Nat.reduceMul]at n0 n1 n2;have e6:(be id++(be dest++(be from_++ar))).drop 12=ar:=by
   rw[<-EK,<-EK];exact List.drop_left' (by simp[al])
  simp only[Pk.bytes,Pk.dec,Pk.body];simp[e3,e5,e6,h3,e1,n0,n1,n2,al];omega
theorem wK (b:UInt8):b8 (b.toNat:Int)=b:=by
 unfold b8;apply ZW.1;have:=b.toNat_lt;simp;omega
theorem qT (l:List UInt8):∀(n:Nat),4*n=l.length->l=fA ((List.range n).map λi=>bm l (4*i)):=by
 intro n hn;have key:∀k,k<=n->fA ((List.range k).map λi=>bm l (4*i))=l.take (4*k):=by
  intro k;induction k with
  |zero=>intro _;simp[fA]
  |succ k ih=>
   intro hk;rw[ubU,EZ];have e:fA ([k].map λi=>bm l (4*i))=(l.drop (4*k)).take 4:=by
    simp only[fA,Hh,Xp,RM,uas,rL];exact wL l _ (by omega)
   have e2:∀a b,fA (a++b)=fA a++fA b:=λa b=>by simp[fA]
   rw[e2,ih (by omega),e,show 4*(k+1)=4*k+4 by omega];exact(ucu (i:=4*k) (j:=4)).symm
 rw[key n (uL _),hn,PE]
theorem Pk.oM {s} {p:Pk} (h:Pk.dec s=some p):p.Fits/\p.bytes=s:=by
 unfold Pk.dec at h;split at h
 ·rename_i t k f z n l;split at h
  ·rename_i hz;obtain⟨rfl,ht⟩:=hz;have Nq:1<=(t.toNat:Int):=by
    have:t.toNat≠0:=λe=>ht (ZW.1 (by rw[e];rfl));omega
   have zu:=t.toNat_lt;have OP:=n.toNat_lt;unfold Pk.body at h;split at h
   ·rename_i hk;subst hk;split at h
    ·rename_i hc;obtain⟨hl,hf⟩:=hc;have hs:=qT l 5 hl.symm;simp only[List.range,List.range.loop,Hh,Xp,fA,RM,uas,rL,ubC,Nat.reduceMul]at hs;cases h;refine⟨⟨⟨Nq,by dsimp only;omega,by dsimp only;omega,by dsimp only;omega,by simp,by simp⟩,.inl ⟨rfl,rfl,rfl,rfl,?_⟩⟩,?_⟩
     ·rcases hf with rfl|⟨rfl,h0⟩
      ·left;rfl
      ·right;exact h0
     ·rcases hf with rfl|⟨rfl,h0⟩
      ·simp only[Pk.bytes,wK];simp only[YZ,EK];rw[<-hs];rfl
      ·simp only[Pk.bytes,wK];simp only[YZ,EK];rw[<-hs];rfl
    ·cases h
   ·split at h
    ·rename_i hk;subst hk;split at h
     ·rename_i hc;obtain⟨hl,rfl⟩:=hc;have hs:=qT l 4 hl.symm;simp only[List.range,List.range.loop,Hh,Xp,fA,RM,uas,rL,ubC,Nat.reduceMul]at hs;cases h;refine⟨⟨⟨Nq,by dsimp only;omega,by dsimp only;omega,by dsimp only;omega,by simp,by simp⟩,.inr (.inl ⟨rfl,rfl,rfl,rfl,rfl,rfl⟩)⟩,?_⟩;simp only[Pk.bytes,wK];rw[eQ (by decide),jF trivial];simp only[EK];rw[<-hs];rfl
     ·cases h
    ·split at h
     ·rename_i hk;subst hk;split at h
      ·rename_i hc;obtain⟨hn,X0,hl,rfl⟩:=hc;cases h;have e:=jZ l n.toNat;refine⟨⟨⟨Nq,by dsimp only;omega,by simp,by simp,by simp,by dsimp only;omega⟩,.inr (.inr (.inl ⟨rfl,rfl,rfl,rfl,rfl,rfl,rfl,by dsimp only;omega,rfl,rfl,rfl⟩))⟩,?_⟩;simp only[Pk.bytes,wK,e];rw[eQ (by decide),eQ (by decide),jF trivial,qj l _ (by omega),<-hl,PE];rfl
      ·cases h
     ·split at h
      ·rename_i hk;subst hk;split at h
       ·rename_i hc;obtain⟨hn,hl,rfl⟩:=hc;cases h;have e:(l.drop 12).length=n.toNat:=by simp;omega
        refine⟨⟨⟨Nq,by dsimp only;omega,by simp,by simp,by dsimp only;omega,by simp⟩,.inr (.inr (.inr ⟨rfl,rfl,rfl,rfl,rfl,rfl,rfl⟩))⟩,?_⟩;simp only[Pk.bytes,wK,e];rw[eQ (by decide),eQ (by decide),eQ (by decide)];have hs:=qT (l.take 12) 3 (by simp;omega);have en:∀i,i+4<=12->bm (l.take 12) i=bm l i:=λi hi=>by
         simp only[bm,dW,G3];rw[jF (by omega),jF (by omega),jF (by omega),jF (by omega)]
        simp only[List.range,List.range.loop,Hh,Xp,fA,RM,uas,rL,ubC,Nat.reduceMul]at hs;rw[en 0 (by omega),en 4 (by omega),en 8 (by omega)]at hs;have VD:be (bm l 0)++(be (bm l 4)++(be (bm l 8)++l.drop 12))=l:=by
         rw[<-EK,<-EK,EK (be (bm l 0)),<-hs,Jt]
        simp only[EK];rw[VD];rfl
       ·cases h
      ·cases h
  ·cases h
 ·cases h
theorem Pk.FN {s} {p:Pk}:Pk.dec s=some p↔p.Fits/\p.bytes=s:=⟨Pk.oM,fun⟨h1,h2⟩=>by rw[<-h2];exact Pk.G9 h1⟩
end
section
open Go.RowKit
theorem Qw {P n w0 c Q} {σ:St} (h:∀w,Sat w0 w σ.H->WS P n w0 c Q σ):WS P n w0 c Q σ:=λa w g=>h w g.sat a w g
attribute [local irreducible] WS LS OpQ y6 cn cv Spec bA iR iQ aK AS
variable (w0:World)
instance Qm {w0:World} {H:af} {v:Value} {α:Type} {size:Nat} {f:α->List Value} {b:α} {l:List α} [h:eX w0 H v α size f (b::l)]:eX w0 H (cq size v 1) α size f l:=⟨λw hs=>(h.at_ w hs).tail 1⟩
instance:DC ucC 20:=⟨by kernel_rfl⟩
section rules
variable {w0:World} {n:fT} {E:Env} {D:List Deferred} {H F:af} {ops:Array Oper} {ol:List Oper} {Q:Exit->St->Prop} {d:Nat} {xs:List Operand} {ts:Array TypeId} {ty:TypeId} {pos:String} {after:Array Edge} {g:Nat} {v:Value} {b:UInt8} {l:List UInt8}
theorem kz (hx:E.mU xs=some [ptr g 0]) (hl:v7 H g 176 [v] F) (hX:eX w0 F v UInt8 1 bU (b::l)) (hd:Nat.blt d n.tmps=true) (h:LS ucC n w0 ops Q ol ⟨(d,.int .i64 (b.toNat:Int))::E,D,aK g 176 [cq 1 v 1]*F⟩):LS ucC n w0 ops Q (⟨some d,.call ⟨.value (.func 71),xs.toArray,ts⟩,ty,pos,after,none⟩::ol) ⟨E,D,H⟩:=by
 refine ai (vA iI hx (R0 w0 (b::l) v g F (by simp)) (hl.eq.trans b5.symm)) hd λu=> ?_;rw[b5];exact h
theorem IQ (hx:E.mU xs=some [ptr g 0]) (hl:v7 H g 176 [v] F) (hX:eX w0 F v UInt8 1 bU []) (h:Q (.panic brk) ⟨E,D,aK g 176 [v]*F⟩):LS ucC n w0 ops Q (⟨some d,.call ⟨.value (.func 71),xs.toArray,ts⟩,ty,pos,after,none⟩::ol) ⟨E,D,H⟩:=by
 refine lG iI hx (RZ w0 [] v g F (by simp)) ⟨hl.eq.trans b5.symm⟩ ?_;rw[b5];exact h
theorem vF (hx:E.mU xs=some [ptr g 0]) (hl:v7 H g 176 [v] F) (hX:eX w0 F v UInt8 1 bU l) (hd:Nat.blt d n.tmps=true) (h1:4<=l.length->LS ucC n w0 ops Q ol ⟨(d,u32 (bm l 0))::E,D,aK g 176 [cq 1 v 4]*F⟩) (h2:l.length<4->Q (.panic brk) ⟨E,D,aK g 176 [v]*F⟩):LS ucC n w0 ops Q (⟨some d,.call ⟨.value (.func 73),xs.toArray,ts⟩,ty,pos,after,none⟩::ol) ⟨E,D,H⟩:=by
 rcases jP l.length 4 with hk|hk
 ·refine lG iI hx (Ed w0 l v g F hk) ⟨hl.eq.trans b5.symm⟩ ?_;rw[b5];exact h2 hk
 ·refine ai (vA iI hx (AF w0 l v g F hk) (hl.eq.trans b5.symm)) hd λu=> ?_;rw[b5];exact h1 hk
theorem LM {k:Nat} {x:Int} (hx:E.mU xs=some [ptr g 0,.int .i64 x]) (hk:fB x k) (hl:v7 H g 176 [v] F) (hX:eX w0 F v UInt8 1 bU l) (hd:Nat.blt d n.tmps=true) (h1:k<=l.length->LS ucC n w0 ops Q ol ⟨(d,di v k)::E,D,aK g 176 [cq 1 v k]*F⟩) (h2:l.length<k->Q (.panic brk) ⟨E,D,aK g 176 [v]*F⟩):LS ucC n w0 ops Q (⟨some d,.call ⟨.value (.func 74),xs.toArray,ts⟩,ty,pos,after,none⟩::ol) ⟨E,D,H⟩:=by
 rcases jP l.length k with P5|P5
 ·refine lG iI hx (Fj w0 l v g F k x hk.eq P5) ⟨hl.eq.trans b5.symm⟩ ?_;rw[b5];exact h2 P5
 ·refine ai (vA iI hx (Fk w0 l v g F k x hk.eq P5) (hl.eq.trans b5.symm)) hd λu=> ?_;rw[b5];exact h1 P5
theorem kW {b} (hx:E.mU xs=some [.bool b]) (hd:Nat.blt d n.tmps=true) (h1:b=true->LS ucC n w0 ops Q ol ⟨(d,.tuple #[])::E,D,H⟩) (h2:b=false->Q (.panic brk) ⟨E,D,H⟩):LS ucC n w0 ops Q (⟨some d,.call ⟨.value (.func 72),xs.toArray,ts⟩,ty,pos,after,none⟩::ol) ⟨E,D,H⟩:=by
 cases b with
 |false=>
  refine lG iI hx (Ku w0) ⟨aB.symm⟩ ?_;rw[aB];exact h2 rfl
 |true=>
  refine ai (vA iI hx (Kv w0) aB.symm) hd λu=> ?_;rw[aB];exact h1 rfl
theorem iv {t f} {im args:List Value} (hn:n.round=none) (ht:E.get t=some (.func (.func f) #[] im.toArray)) (eB:E.mU xs=some args) (h:LS ucC n w0 ops Q ol ⟨E,⟨.fn (.func f) im.toArray,args.toArray⟩::D,H⟩):LS ucC n w0 ops Q (⟨none,.defer ⟨.value (.tmp t),xs.toArray,ts⟩,ty,pos,after,none⟩::ol) ⟨E,D,H⟩:=GH (d:=none) hn rfl ht eB h
theorem jb {α size f} {l:List α} {c} (v) (hl:eX w0 H v α size f l) (h:∀A cap,v= .slice A l.length cap->WS ucC n w0 c Q ⟨E,D,H⟩):WS ucC n w0 c Q ⟨E,D,H⟩:=Qw λw hs=>by
 obtain⟨A,cap,e,_⟩:=(hl.at_ w hs).form;exact h A cap e
end rules
def Pk.zero:Pk:=⟨0,0,0,false,0,0,0,0,0,0,[],[]⟩
section out
variable {w0:World} {m:fT} {E:Env} {H F Y:af} {R:Value->af->Prop} {p q:Nat} {cs bs:List Value}
theorem L9 {K:FrameMode->af->Prop} (hl:v7 H p 44 cs F) (yz:v7 F q 4 bs Y) (zm:cs.length=12) (Ll:bs.length=1) (h:K (.panicking [{v:= .iface 232 (.agg #[]),recovered:=true}]) (aK p 44 (Pk.zero.cells (.slice none 0 0))*(aK q 4 [.bool false]*Y))):
 iQ ucC w0 70 [ptr p 0,ptr q 0] (.panicking brk) H K:=by
 obtain⟨c0,c1,c2,c3,c4,c5,c6,c7,c8,c9,PU,PV,rfl⟩:∃c0 c1 c2 c3 c4 c5 c6 c7 c8 c9 PU PV,cs=[c0,c1,c2,c3,c4,c5,c6,c7,c8,c9,PU,PV]:=by
  match cs,zm with
  |[c0,c1,c2,c3,c4,c5,c6,c7,c8,c9,PU,PV],_=>exact⟨_,_,_,_,_,_,_,_,_,_,_,_,rfl⟩
 obtain⟨b0,rfl⟩:∃b0,bs=[b0]:=by
  match bs,Ll with
  |[b0],_=>exact⟨_,rfl⟩
 refine iQ.JH Tryz.func70 rfl Tryz.ntmps70 rfl rfl rfl (bE (v:= .iface 232 (.agg #[])) (u:= .nilIface) (r:= .bool true) rfl rfl iI) ?_
 simp only[aN,ox,brk]
 have e:H=aK p 44 [c0,c1,c2,c3,c4,c5,c6,c7,c8,c9,PU,PV]*(aK q 4 [b0]*Y):=by rw[hl.eq,yz.eq]
 rw[e]
 repeat' (first|refine ax ?_|(refine aF ?_ ?_<;>intro hc<;>try exact aG)|refine bQ λg=> ?_)
 refine aj (.inr rfl) rfl ?_
 have e2:∀A B C:af,B*(A*C)=A*(B*C):=λA B C=>aM _ _ _
 simpa only[e2,Pk.zero,Pk.cells]using h
theorem Ma {K} (h:K .returning H):iQ ucC w0 70 [ptr p 0,ptr q 0] .returning H K:=by
 refine iQ.JH Tryz.func70 rfl Tryz.ntmps70 rfl rfl rfl (GK rfl iI) ?_;simp only[aN,ox];repeat' (first|refine ax ?_|(refine aF ?_ ?_<;>intro hc<;>try exact aG))
 exact aj (.inr rfl) rfl h
theorem jm (h2:E.get 2=some (ptr p 0)) (h3:E.get 3=some (ptr q 0)) (hl:v7 H p 44 cs F) (yz:v7 F q 4 bs Y) (zm:cs.length=12) (Ll:bs.length=1)
 (hR:R (.tuple #[Pk.zero.val (.slice none 0 0),.bool false]) (aK p 44 (Pk.zero.cells (.slice none 0 0))*(aK q 4 [.bool false]*Y))):
 KH ucC m w0 Tryz.f35 R (.panic brk) ⟨E,[⟨.fn (.func 70) ([ptr p 0,ptr q 0]:List Value).toArray,([]:List Value).toArray⟩],H⟩:=
 zft (pH (im:=[ptr p 0,ptr q 0]) (args:=[]) (by simp) iI (L9 hl yz zm Ll (Gb rfl (aS h2 iI iI rfl) (BF h3 iI iI rfl) hR)))
theorem xR {vs:List Value} (h2:E.get 2=some (ptr p 0)) (h3:E.get 3=some (ptr q 0)) (hl:v7 H p 44 cs F) (yz:v7 H q 4 [.bool true] Y) (zm:Dq cs 0 12=some vs)
 (hR:R (.tuple #[.agg vs.toArray,.bool true]) H):
 KH ucC m w0 Tryz.f35 R .ret ⟨E,[⟨.fn (.func 70) ([ptr p 0,ptr q 0]:List Value).toArray,([]:List Value).toArray⟩],H⟩:=
 zcc (pH (im:=[ptr p 0,ptr q 0]) (args:=[]) (by simp) iI (Ma (Gb rfl (aS h2 hl iI zm) (BF h3 yz iI rfl) hR)))
end out
def j6 (l:List UInt8) (v':Value):Value:= .tuple #[((Pk.dec l).getD Pk.zero).val v',.bool (Pk.dec l).isSome]
abbrev ey (l:List UInt8) (v':Value) (X:af):af:=rows 180 2 bB v' ((Pk.dec l).getD Pk.zero).lost*X
theorem zgk (l:List UInt8) (h:l.length<5):Pk.dec l=none:=by
 match l,h with
 |[],_=>rfl
 |[_],_=>rfl
 |[_,_],_=>rfl
 |[_,_,_],_=>rfl
 |[_,_,_,_],_=>rfl
 |_::_::_::_::_::_,h=>simp at h;omega
theorem yO (l:List UInt8) (hl:l.length<5) (v X) [hX:eX w0 X v UInt8 1 bU l]:Spec ucC w0 35 [v] X (λv':Value=>j6 l v') (λv'=>ey l v' X):=by
 have hd:=zgk l hl;simp only[j6,ey,hd];refine Spec.jr Tryz.func35 rfl Tryz.ntmps35 rfl λG=> ?_;simp only[aN];refine jb v (iI:eX w0 (X*G) v UInt8 1 bU l) λA cap hv=> ?_;subst hv;iterate 5
  rcases l with _|⟨a,l⟩
  ·repeat' (first|intro K hK|(intro hc;try exact aG)|refine xyZ ?_|refine aF ?_ ?_|((first|refine dn rfl rfl iI rfl ?_ ?_|refine dm rfl rfl iI rfl ?_ ?_|refine dU rfl rfl iI rfl ?_ ?_)<;>intro hc)|refine bT λg=> ?_|refine bQ λg=> ?_|refine iv rfl rfl rfl ?_|refine IQ rfl iI iI ?_|(refine kz rfl iI iI rfl ?_)|(refine kW rfl rfl ?_ ?_<;>(intro hc;first|(cases hc;done)|skip))|refine ij ?_)
   all_goals
    refine jm rfl rfl iI iI rfl rfl ?_
    exact⟨.slice none 0 0,rfl,ah⟩
 simp at hl;omega
end
section
open Go.RowKit
attribute [local irreducible] WS LS OpQ y6 cn cv Spec bA iR iQ aK AS cq di
variable (w0:World)
theorem cI (l:List UInt8) (k i):bm (l.drop k) i=bm l (k+i):=by
 simp[bm,dW,uba]
theorem dk {b:UInt8} {m} (h:b.toNat=m) (hm:m<256):b=UInt8.ofNat m:=by
 apply ZW.1;rw[h];simp;omega
theorem sS (t k f z n:UInt8) (l:List UInt8) (hl:l.length<=100000) (hd:Pk.dec (t::k::f::z::n::l)=none) (hb:z.toNat≠0\/(z.toNat=0/\t.toNat=0)\/(z.toNat=0/\0<t.toNat/\f.toNat≠0/\f.toNat≠8)\/(z.toNat=0/\0<t.toNat/\f.toNat=8/\k.toNat≠1)) (v X) [hX:eX w0 X v UInt8 1 bU (t::k::f::z::n::l)]:Spec ucC w0 35 [v] X (λv':Value=>j6 (t::k::f::z::n::l) v') (λv'=>ey (t::k::f::z::n::l) v' X):=by
 simp only[j6,ey,hd];refine Spec.jr Tryz.func35 rfl Tryz.ntmps35 rfl λG=> ?_;simp only[aN];refine jb v (iI:eX w0 (X*G) v UInt8 1 bU (t::k::f::z::n::l)) λA cap hv=> ?_;subst hv;rcases hb with h1|⟨h1,h2⟩|⟨h1,h2,h3,h4⟩|⟨h1,h2,h3,h4⟩
 all_goals
  repeat' (first|intro K hK|intro hc|refine xyZ ?_|refine aF ?_ ?_|refine bT λg=> ?_|refine bQ λg=> ?_|refine iv rfl rfl rfl ?_|(refine kz rfl iI iI rfl ?_)|(refine kW rfl rfl ?_ ?_<;>(intro hc;first|(cases hc;done)|skip))|with_reducible refine ij ?_)
 all_goals
  refine jm rfl rfl iI iI rfl rfl ?_
  exact⟨.slice none 0 0,rfl,ah⟩
theorem Fo (t k f z n:UInt8) (l:List UInt8) (hl:l.length<=100000) (hd:Pk.dec (t::k::f::z::n::l)=none) (hz:z.toNat=0) (ht:0<t.toNat) (hf:f.toNat=0) (h1:k.toNat≠1) (h2:k.toNat≠2) (h3:k.toNat≠3) (h9:k.toNat≠9) (v X) [hX:eX w0 X v UInt8 1 bU (t::k::f::z::n::l)]:Spec ucC w0 35 [v] X (λv':Value=>j6 (t::k::f::z::n::l) v') (λv'=>ey (t::k::f::z::n::l) v' X):=by
 simp only[j6,ey,hd];refine Spec.jr Tryz.func35 rfl Tryz.ntmps35 rfl λG=> ?_;simp only[aN];refine jb v (iI:eX w0 (X*G) v UInt8 1 bU (t::k::f::z::n::l)) λA cap hv=> ?_;subst hv;repeat' (first|intro K hK|intro hc|refine xyZ ?_|refine aF ?_ ?_|refine bT λg=> ?_|refine bQ λg=> ?_|refine iv rfl rfl rfl ?_|(refine kz rfl iI iI rfl ?_)|(refine kW rfl rfl ?_ ?_<;>(intro hc;first|(cases hc;done)|skip))|with_reducible refine ij ?_|with_reducible refine kH ?_)
 all_goals
  refine jm rfl rfl iI iI rfl rfl ?_
  exact⟨.slice none 0 0,rfl,ah⟩
theorem PM (t k f z n:UInt8) (l:List UInt8) (hl:l.length<=100000) (hz:z.toNat=0) (ht:0<t.toNat) (hf:f.toNat=0) (h2:k.toNat=2) (v X) [hX:eX w0 X v UInt8 1 bU (t::k::f::z::n::l)]:Spec ucC w0 35 [v] X (λv':Value=>j6 (t::k::f::z::n::l) v') (λv'=>ey (t::k::f::z::n::l) v' X):=by
 have Cc:Pk.dec (t::k::f::z::n::l)=if l.length=16 then some ⟨t.toNat,2,n.toNat,false,0,bm l 0,bm l 4,bm l 8,0,bm l 12,[],[]⟩else none:=by
  exact pai
 exact pab
theorem MW (t k f z n:UInt8) (l:List UInt8) (hl:l.length<=100000) (hz:z.toNat=0) (ht:0<t.toNat) (hf:f.toNat=0) (h2:k.toNat=1) (v X) [hX:eX w0 X v UInt8 1 bU (t::k::f::z::n::l)]:Spec ucC w0 35 [v] X (λv':Value=>j6 (t::k::f::z::n::l) v') (λv'=>ey (t::k::f::z::n::l) v' X):=by
 have Cc:Pk.dec (t::k::f::z::n::l)=if l.length=20 then some ⟨t.toNat,1,n.toNat,false,bm l 0,bm l 4,bm l 8,bm l 12,bm l 16,0,[],[]⟩else none:=by
  exact pai
 exact pab
theorem MX (t k f z n:UInt8) (l:List UInt8) (hl:l.length<=100000) (hz:z.toNat=0) (ht:0<t.toNat) (hf:f.toNat=8) (h2:k.toNat=1) (v X) [hX:eX w0 X v UInt8 1 bU (t::k::f::z::n::l)]:Spec ucC w0 35 [v] X (λv':Value=>j6 (t::k::f::z::n::l) v') (λv'=>ey (t::k::f::z::n::l) v' X):=by
 have Cc:Pk.dec (t::k::f::z::n::l)=if l.length=20/\bm l 8=0 then some ⟨t.toNat,1,n.toNat,true,bm l 0,bm l 4,bm l 8,bm l 12,bm l 16,0,[],[]⟩else none:=by
  exact pai
 exact pab
theorem PO (t k f z n:UInt8) (l:List UInt8) (hl:l.length<=100000) (hz:z.toNat=0) (ht:0<t.toNat) (hf:f.toNat=0) (h2:k.toNat=9) (v X) [hX:eX w0 X v UInt8 1 bU (t::k::f::z::n::l)]:Spec ucC w0 35 [v] X (λv':Value=>j6 (t::k::f::z::n::l) v') (λv'=>ey (t::k::f::z::n::l) v' X):=by
 have Cc:Pk.dec (t::k::f::z::n::l)=if n.toNat<=16/\l.length=12+n.toNat then some ⟨t.toNat,9,0,false,bm l 0,bm l 4,0,bm l 8,0,0,[],l.drop 12⟩else none:=by
  exact pai
 refine Spec.jr Tryz.func35 rfl Tryz.ntmps35 rfl λG=> ?_;simp only[aN];refine jb v (iI:eX w0 (X*G) v UInt8 1 bU (t::k::f::z::n::l)) λA cap hv=> ?_;subst hv;repeat' (first|intro K hK|(intro hc;try exact aG)|refine xyZ ?_|refine aF ?_ ?_|((refine' LQ ?zh rfl ?_);case zh=>intro F';exact kY rfl iI rfl iI iI iI)|((first|refine dn rfl rfl iI rfl ?_ ?_|refine dm rfl rfl iI rfl ?_ ?_|refine dU rfl rfl iI rfl ?_ ?_)<;>intro hc)|refine bT λg=> ?_|refine bQ λg=> ?_|refine iv rfl rfl rfl ?_|(refine kz rfl iI iI rfl ?_)|(refine vF rfl iI iI rfl ?_ ?_<;>(intro hc;try simp only[uK]at hc))|(refine LM rfl iI iI iI rfl ?_ ?_<;>(intro hc;try simp only[uK]at hc))|(refine kW rfl rfl ?_ ?_<;>(intro hc;first|(cases hc;done)|skip))|with_reducible refine ij ?_|with_reducible refine kH ?_)
 all_goals
  first
  |(have hd:Pk.dec (t::k::f::z::n::l)=none:=by
     rw[Cc,eQ];first|((try simp only[uK]at*);omega)|(intro AI;simp_all [cI];done)
    refine jm rfl rfl iI iI rfl rfl ?_
    simp only[j6,ey,hd]
    exact⟨.slice none 0 0,rfl,ah⟩)
  |(have hd:=Cc.trans (jF (by first|((try simp only[uK]at*);omega)|(refine⟨by(try simp only[uK]at*);omega,?_⟩;simp_all [cI];done)))
    have VD:(l.drop 12).take n.toNat=l.drop 12:=Gz (by(try simp only[uK]at*);omega)
    refine xR rfl rfl iI iI rfl ?_
    simp only[j6,ey,hd,CV,uz]
    exact⟨.slice none 0 0,by simp[Pk.val,Pk.cells,cI,h2, *],ah⟩)
theorem PN (t k f z n:UInt8) (l:List UInt8) (hl:l.length<=100000) (hz:z.toNat=0) (ht:0<t.toNat) (hf:f.toNat=0) (h2:k.toNat=3) (v X) [hX:eX w0 X v UInt8 1 bU (t::k::f::z::n::l)]:Spec ucC w0 35 [v] X (λv':Value=>j6 (t::k::f::z::n::l) v') (λv'=>ey (t::k::f::z::n::l) v' X):=by
 have Cc:Pk.dec (t::k::f::z::n::l)=if 1<=n.toNat/\n.toNat<=8/\l.length=8*n.toNat then some ⟨t.toNat,3,0,false,0,0,0,0,0,0,dZ l n.toNat,[]⟩else none:=by
  exact pai
 refine Spec.jr Tryz.func35 rfl Tryz.ntmps35 rfl λG=> ?_;simp only[aN];refine jb v (iI:eX w0 (X*G) v UInt8 1 bU (t::k::f::z::n::l)) λA cap hv=> ?_;subst hv;repeat' (first
  |(refine ab ?_;intro K hK)
  |(refine hK _ ?_;clear hK K)
  |(with_reducible (first|refine vZ ?_|refine Gv ?_|refine rH ?_|refine BS ?_|refine rI rfl ?_|refine Bl ?_|refine wO ?_|refine Gy (by assumption) ?_))
  |refine pt ?_
  |refine z7 ?_
  |(show LS _ _ _ _ _ (⟨_,_,_,_,_,some _⟩::_) _;first|refine IW rfl rfl iI rfl ?_|refine IT rfl rfl iI rfl ?_|refine IX rfl rfl rfl ?_|((first|refine IV rfl rfl rfl ?_ ?_|refine Qr rfl ?_ ?_)<;>intro hc<;>(try simp only[cS]at hc)<;>(try(exfalso;first|contradiction|omega;done))))
  |(first|refine LD ?_|refine LI ?_|refine LG ?_|refine LF ?_|refine LH ?_)
  |(first|refine GB rfl ?_|refine By rfl rfl ?_)
  |(refine aL iI rfl ?_;intro g)
  |((first|refine' LQ ?zh rfl ?_|refine' bP rfl rfl rfl ?zh ?_|refine' bk rfl rfl ?zh ?_);case zh=>intro F';first|exact bC rfl|exact kC rfl|exact db rfl|exact bq rfl iI rfl|exact ca rfl iI iI rfl|exact bp rfl rfl iI (by first|assumption|omega|decide)|exact bH rfl rfl iI (by first|assumption|omega|decide)|exact fC rfl rfl iI (by first|assumption|omega|decide)|exact du rfl rfl iI (by first|assumption|omega|decide)|exact wj rfl rfl (by omega)|exact I3 rfl rfl (by omega)|exact BE rfl iI rfl|exact BD rfl iI rfl|exact zga rfl rfl rfl|exact Tq rfl iI|exact kZ rfl iI iI rfl|exact LP iI iI rfl rfl|exact IY iI iI iI rfl rfl|exact M4 rfl iI|exact NX rfl iI|exact eG rfl iI iI rfl (by first|assumption|omega|(simp[al]<;>omega))|exact lg rfl iI iI iI (by assumption) rfl|exact lg rfl iI iI iI rfl rfl|exact ja rfl iI iI iI (by assumption)|exact I1 rfl iI iI|exact NW rfl iI iI|exact wk rfl iI iI iI|exact eV rfl iI iI iI|exact kD rfl iI iI iI|exact kY rfl iI rfl iI iI iI|exact zcu rfl iI iI (by omega)|exact fu rfl iI iI|exact po rfl iI iI|exact Aa rfl iI iI|exact zeB rfl iI iI rfl iI iI iI|exact kP rfl rfl (by first|omega|(simp[al]<;>omega))|exact DE rfl rfl|exact zbs rfl|exact NZ rfl rfl (by omega)|exact zeS rfl rfl (by omega)|exact DF rfl (by omega)|exact I2 rfl rfl (by omega))
  |((first|refine dn rfl rfl iI rfl ?_ ?_|refine dm rfl rfl iI rfl ?_ ?_|refine dU rfl rfl iI rfl ?_ ?_)<;>intro hc)
  |((first|refine' LQ ?zh rfl ?_|refine' bP rfl rfl rfl ?zh ?_|refine' bk rfl rfl ?zh ?_);case zh=>intro F';first|exact bE rfl rfl iI)
  |((first|refine' ai ?zh rfl ?_|refine' aD ?zh rfl rfl rfl ?_);(case zh=>first|exact ph iI|exact rj rfl|exact NS rfl iI|exact lF iI iI iI rfl rfl rfl rfl rfl iI rfl rfl|exact rl iI iI iI rfl rfl rfl rfl rfl|exact yq iI iI|exact te rfl rfl iI iI rfl iI iI mS (by first|omega|(simp[al]<;>omega)) rfl|exact zdz rfl rfl iI iI iI rfl rfl iI (by first|omega|(simp[al]<;>omega)) rfl|exact GD rfl rfl iI rfl iI iI (by first|omega|(simp[al]<;>omega)) rfl|exact Fx rfl iI rfl iI iI iI|exact zf9 rfl (by first|rfl|assumption));intro g)
  |((first|refine' bL ?zh ?_|refine' dP ?zh rfl rfl ?_);(case zh=>first|exact IN rfl rfl iI iI iI rfl|exact GG rfl rfl iI iI iI rfl|exact oF rfl rfl iI iI rfl iI (by first|assumption|omega|(simp[al]<;>omega))|exact gV _ rfl rfl rfl iI iI iI rfl rfl (by first|assumption|omega|(simp[al]<;>omega))|exact dB _ rfl rfl iI iI iI rfl (by assumption) rfl|exact kV rfl rfl iI (by first|rfl|assumption) iI rfl|exact bo rfl rfl iI iI (by first|rfl|(simp only[uao,uaK, *];rfl)) rfl);intro g)
  |(first|refine oG ?_|refine FD ?_|refine DI ?_|refine FC ?_|refine I9 ?_)
  |(show WS _ _ _ (.cond _ _ _) _ _;first|refine wy rfl iI ?_|refine BH rfl iI ?_|refine wx rfl (by assumption) ?_|refine wu rfl (by assumption) ?_|(refine pr rfl ?_ ?_<;>intro hc<;>(try simp only[cS]at hc)<;>(try(exfalso;first|contradiction|omega;done))))
  |refine mO (by kernel_rfl) ?_
  |refine iv rfl rfl rfl ?_
  |refine IQ rfl iI iI ?_
  |(refine kz rfl iI iI rfl ?_)
  |(refine vF rfl iI iI rfl ?_ ?_<;>(intro hc;try simp only[uK]at hc))
  |(refine LM rfl iI iI iI rfl ?_ ?_<;>(intro hc;try simp only[uK]at hc))
  |(refine kW rfl rfl ?_ ?_<;>(intro hc;first|(cases hc;done)|skip))
  |with_reducible refine ij ?_
  |with_reducible refine kH ?_)
 rotate_left
 ·exact pa3
 ·exact pa3
 rename_i p q gg u1 u2 Mk OP X0;refine aV (λm τ=>∃(i:Nat) (v' vl:Value),i+m=n.toNat/\8*i<=l.length/\eX w0 X v' UInt8 1 bU (l.drop (8*i))/\τ=⟨[(103,.int .i64 (i:Int)),(102,.int .i64 (n.toNat:Int)),(2,ptr p 0),(3,ptr q 0),(4,ptr gg 0)],[⟨.fn (.func 70) ([ptr p 0,ptr q 0]:List Value).toArray,([]:List Value).toArray⟩],rows 180 2 bB vl (dZ l i)*(aK gg 176 [v']*(aK p 44 [.int .i64 (t.toNat:Int),.int .i64 (k.toNat:Int),.int .i64 0,.bool false,u32 0,u32 0,u32 0,u32 0,u32 0,u32 0,vl,aZ []]*(aK q 4 [.bool false]*(X*G))))⟩) ?_ ?_
 ·refine⟨n.toNat,_,⟨0,_,.slice none 0 0,by omega,by omega,(iI:eX w0 X (cq 1 (cq 1 (cq 1 (cq 1 (cq 1 (.slice A (t::k::f::z::n::l).length cap) 1) 1) 1) 1) 1) UInt8 1 bU l),rfl⟩,cG,rfl,?_⟩;refine aq.Pu ?_;exact ah
 ·rintro m τ ⟨i,v',vl,P2,Y8,hR,rfl⟩;have El:(l.drop (8*i)).length=l.length - 8*i:=by simp
  have Xx:((l.drop (8*i)).drop 4).length=l.length - 8*i - 4:=by simp;omega
  rcases jP i n.toNat with bW|kQ
  ·rcases jP (l.length - 8*i) 8 with h8|h8
   ·have hd:Pk.dec (t::k::f::z::n::l)=none:=by rw[Cc,eQ];omega
    rcases jP (l.length - 8*i) 4 with h4|h4
    ·have hx:=Ed w0 (l.drop (8*i)) v' gg X (by omega);repeat' (first
      |(refine ab ?_;intro K hK)
      |(refine hK _ ?_;clear hK K)
      |(with_reducible (first|refine vZ ?_|refine Gv ?_|refine rH ?_|refine BS ?_|refine rI rfl ?_|refine Bl ?_|refine wO ?_|refine Gy (by assumption) ?_))
      |refine pt ?_
      |refine z7 ?_
      |(show LS _ _ _ _ _ (⟨_,_,_,_,_,some _⟩::_) _;first|refine IW rfl rfl iI rfl ?_|refine IT rfl rfl iI rfl ?_|refine IX rfl rfl rfl ?_|((first|refine IV rfl rfl rfl ?_ ?_|refine Qr rfl ?_ ?_)<;>intro hc<;>(try simp only[cS]at hc)<;>(try(exfalso;first|contradiction|omega;done))))
      |(first|refine LD ?_|refine LI ?_|refine LG ?_|refine LF ?_|refine LH ?_)
      |(first|refine GB rfl ?_|refine By rfl rfl ?_)
      |(refine aL iI rfl ?_;intro g)
      |((first|refine' LQ ?zh rfl ?_|refine' bP rfl rfl rfl ?zh ?_|refine' bk rfl rfl ?zh ?_);case zh=>intro F';first|exact bC rfl|exact kC rfl|exact db rfl|exact bq rfl iI rfl|exact ca rfl iI iI rfl|exact bp rfl rfl iI (by first|assumption|omega|decide)|exact bH rfl rfl iI (by first|assumption|omega|decide)|exact fC rfl rfl iI (by first|assumption|omega|decide)|exact du rfl rfl iI (by first|assumption|omega|decide)|exact wj rfl rfl (by omega)|exact I3 rfl rfl (by omega)|exact BE rfl iI rfl|exact BD rfl iI rfl|exact zga rfl rfl rfl|exact Tq rfl iI|exact kZ rfl iI iI rfl|exact LP iI iI rfl rfl|exact IY iI iI iI rfl rfl|exact M4 rfl iI|exact NX rfl iI|exact eG rfl iI iI rfl (by first|assumption|omega|(simp[al]<;>omega))|exact lg rfl iI iI iI (by assumption) rfl|exact lg rfl iI iI iI rfl rfl|exact ja rfl iI iI iI (by assumption)|exact I1 rfl iI iI|exact NW rfl iI iI|exact wk rfl iI iI iI|exact eV rfl iI iI iI|exact kD rfl iI iI iI|exact kY rfl iI rfl iI iI iI|exact zcu rfl iI iI (by omega)|exact fu rfl iI iI|exact po rfl iI iI|exact Aa rfl iI iI|exact zeB rfl iI iI rfl iI iI iI|exact kP rfl rfl (by first|omega|(simp[al]<;>omega))|exact DE rfl rfl|exact zbs rfl|exact NZ rfl rfl (by omega)|exact zeS rfl rfl (by omega)|exact DF rfl (by omega)|exact I2 rfl rfl (by omega))
      |((first|refine dn rfl rfl iI rfl ?_ ?_|refine dm rfl rfl iI rfl ?_ ?_|refine dU rfl rfl iI rfl ?_ ?_)<;>intro hc)
      |((first|refine' LQ ?zh rfl ?_|refine' bP rfl rfl rfl ?zh ?_|refine' bk rfl rfl ?zh ?_);case zh=>intro F';first|exact bE rfl rfl iI)
      |((first|refine' ai ?zh rfl ?_|refine' aD ?zh rfl rfl rfl ?_);(case zh=>first|exact ph iI|exact rj rfl|exact NS rfl iI|exact lF iI iI iI rfl rfl rfl rfl rfl iI rfl rfl|exact rl iI iI iI rfl rfl rfl rfl rfl|exact yq iI iI|exact te rfl rfl iI iI rfl iI iI mS (by first|omega|(simp[al]<;>omega)) rfl|exact zdz rfl rfl iI iI iI rfl rfl iI (by first|omega|(simp[al]<;>omega)) rfl|exact GD rfl rfl iI rfl iI iI (by first|omega|(simp[al]<;>omega)) rfl|exact Fx rfl iI rfl iI iI iI|exact zf9 rfl (by first|rfl|assumption));intro g)
      |((first|refine' bL ?zh ?_|refine' dP ?zh rfl rfl ?_);(case zh=>first|exact IN rfl rfl iI iI iI rfl|exact GG rfl rfl iI iI iI rfl|exact oF rfl rfl iI iI rfl iI (by first|assumption|omega|(simp[al]<;>omega))|exact gV _ rfl rfl rfl iI iI iI rfl rfl (by first|assumption|omega|(simp[al]<;>omega))|exact dB _ rfl rfl iI iI iI rfl (by assumption) rfl|exact kV rfl rfl iI (by first|rfl|assumption) iI rfl|exact bo rfl rfl iI iI (by first|rfl|(simp only[uao,uaK, *];rfl)) rfl);intro g)
      |(first|refine oG ?_|refine FD ?_|refine DI ?_|refine FC ?_|refine I9 ?_)
      |(show WS _ _ _ (.cond _ _ _) _ _;first|refine wy rfl iI ?_|refine BH rfl iI ?_|refine wx rfl (by assumption) ?_|refine wu rfl (by assumption) ?_|(refine pr rfl ?_ ?_<;>intro hc<;>(try simp only[cS]at hc)<;>(try(exfalso;first|contradiction|omega;done)))))
     refine wz (by kernel_rfl) ?_;repeat' (first|refine cu rfl (bq rfl iI rfl) rfl ?_|refine cu rfl (ca rfl iI iI rfl) rfl ?_|refine cu rfl (bC rfl) rfl ?_|refine dq rfl iI rfl hx iI ?_|refine aw (r:=[3]) (by decide+kernel) rfl rfl ⟨?_,trivial⟩|refine aw (r:=[2]) (by decide+kernel) rfl rfl ⟨?_,trivial⟩|refine aw (r:=[2,4]) (by decide+kernel) rfl rfl ⟨?_,?_,trivial⟩|refine aw (r:=[3,4]) (by decide+kernel) rfl rfl ⟨?_,?_,trivial⟩|refine aw (r:=[1,3]) (by decide+kernel) rfl rfl ⟨?_,?_,trivial⟩|refine aw (r:=[1,2]) (by decide+kernel) rfl rfl ⟨?_,?_,trivial⟩|refine aw (r:=[0,3]) (by decide+kernel) rfl rfl ⟨?_,?_,trivial⟩|refine aw (r:=[0,2]) (by decide+kernel) rfl rfl ⟨?_,?_,trivial⟩|refine aw (r:=[0,2,4]) (by decide+kernel) rfl rfl ⟨?_,?_,?_,trivial⟩|refine aw (r:=[1,2,4]) (by decide+kernel) rfl rfl ⟨?_,?_,?_,trivial⟩|refine aw (r:=[1,3,4]) (by decide+kernel) rfl rfl ⟨?_,?_,?_,trivial⟩|refine aw (r:=[0,3,4]) (by decide+kernel) rfl rfl ⟨?_,?_,?_,trivial⟩)
     all_goals
      repeat' (first|with_reducible refine ij ?_|with_reducible refine kH ?_)
      refine jm rfl rfl iI iI rfl rfl ?_
      simp only[j6,ey,hd]
      exact⟨.slice none 0 0,rfl,ah⟩
    ·have j7:=AF w0 (l.drop (8*i)) v' gg X (by omega);have hx:=Ed w0 ((l.drop (8*i)).drop 4) (cq 1 v' 4) gg X (by omega);repeat' (first
      |(refine ab ?_;intro K hK)
      |(refine hK _ ?_;clear hK K)
      |(with_reducible (first|refine vZ ?_|refine Gv ?_|refine rH ?_|refine BS ?_|refine rI rfl ?_|refine Bl ?_|refine wO ?_|refine Gy (by assumption) ?_))
      |refine pt ?_
      |refine z7 ?_
      |(show LS _ _ _ _ _ (⟨_,_,_,_,_,some _⟩::_) _;first|refine IW rfl rfl iI rfl ?_|refine IT rfl rfl iI rfl ?_|refine IX rfl rfl rfl ?_|((first|refine IV rfl rfl rfl ?_ ?_|refine Qr rfl ?_ ?_)<;>intro hc<;>(try simp only[cS]at hc)<;>(try(exfalso;first|contradiction|omega;done))))
      |(first|refine LD ?_|refine LI ?_|refine LG ?_|refine LF ?_|refine LH ?_)
      |(first|refine GB rfl ?_|refine By rfl rfl ?_)
      |(refine aL iI rfl ?_;intro g)
      |((first|refine' LQ ?zh rfl ?_|refine' bP rfl rfl rfl ?zh ?_|refine' bk rfl rfl ?zh ?_);case zh=>intro F';first|exact bC rfl|exact kC rfl|exact db rfl|exact bq rfl iI rfl|exact ca rfl iI iI rfl|exact bp rfl rfl iI (by first|assumption|omega|decide)|exact bH rfl rfl iI (by first|assumption|omega|decide)|exact fC rfl rfl iI (by first|assumption|omega|decide)|exact du rfl rfl iI (by first|assumption|omega|decide)|exact wj rfl rfl (by omega)|exact I3 rfl rfl (by omega)|exact BE rfl iI rfl|exact BD rfl iI rfl|exact zga rfl rfl rfl|exact Tq rfl iI|exact kZ rfl iI iI rfl|exact LP iI iI rfl rfl|exact IY iI iI iI rfl rfl|exact M4 rfl iI|exact NX rfl iI|exact eG rfl iI iI rfl (by first|assumption|omega|(simp[al]<;>omega))|exact lg rfl iI iI iI (by assumption) rfl|exact lg rfl iI iI iI rfl rfl|exact ja rfl iI iI iI (by assumption)|exact I1 rfl iI iI|exact NW rfl iI iI|exact wk rfl iI iI iI|exact eV rfl iI iI iI|exact kD rfl iI iI iI|exact kY rfl iI rfl iI iI iI|exact zcu rfl iI iI (by omega)|exact fu rfl iI iI|exact po rfl iI iI|exact Aa rfl iI iI|exact zeB rfl iI iI rfl iI iI iI|exact kP rfl rfl (by first|omega|(simp[al]<;>omega))|exact DE rfl rfl|exact zbs rfl|exact NZ rfl rfl (by omega)|exact zeS rfl rfl (by omega)|exact DF rfl (by omega)|exact I2 rfl rfl (by omega))
      |((first|refine dn rfl rfl iI rfl ?_ ?_|refine dm rfl rfl iI rfl ?_ ?_|refine dU rfl rfl iI rfl ?_ ?_)<;>intro hc)
      |((first|refine' LQ ?zh rfl ?_|refine' bP rfl rfl rfl ?zh ?_|refine' bk rfl rfl ?zh ?_);case zh=>intro F';first|exact bE rfl rfl iI)
      |((first|refine' ai ?zh rfl ?_|refine' aD ?zh rfl rfl rfl ?_);(case zh=>first|exact ph iI|exact rj rfl|exact NS rfl iI|exact lF iI iI iI rfl rfl rfl rfl rfl iI rfl rfl|exact rl iI iI iI rfl rfl rfl rfl rfl|exact yq iI iI|exact te rfl rfl iI iI rfl iI iI mS (by first|omega|(simp[al]<;>omega)) rfl|exact zdz rfl rfl iI iI iI rfl rfl iI (by first|omega|(simp[al]<;>omega)) rfl|exact GD rfl rfl iI rfl iI iI (by first|omega|(simp[al]<;>omega)) rfl|exact Fx rfl iI rfl iI iI iI|exact zf9 rfl (by first|rfl|assumption));intro g)
      |((first|refine' bL ?zh ?_|refine' dP ?zh rfl rfl ?_);(case zh=>first|exact IN rfl rfl iI iI iI rfl|exact GG rfl rfl iI iI iI rfl|exact oF rfl rfl iI iI rfl iI (by first|assumption|omega|(simp[al]<;>omega))|exact gV _ rfl rfl rfl iI iI iI rfl rfl (by first|assumption|omega|(simp[al]<;>omega))|exact dB _ rfl rfl iI iI iI rfl (by assumption) rfl|exact kV rfl rfl iI (by first|rfl|assumption) iI rfl|exact bo rfl rfl iI iI (by first|rfl|(simp only[uao,uaK, *];rfl)) rfl);intro g)
      |(first|refine oG ?_|refine FD ?_|refine DI ?_|refine FC ?_|refine I9 ?_)
      |(show WS _ _ _ (.cond _ _ _) _ _;first|refine wy rfl iI ?_|refine BH rfl iI ?_|refine wx rfl (by assumption) ?_|refine wu rfl (by assumption) ?_|(refine pr rfl ?_ ?_<;>intro hc<;>(try simp only[cS]at hc)<;>(try(exfalso;first|contradiction|omega;done)))))
     refine wz (by kernel_rfl) ?_;repeat' (first|refine cu rfl (bq rfl iI rfl) rfl ?_|refine cu rfl (ca rfl iI iI rfl) rfl ?_|refine cu rfl (bC rfl) rfl ?_|refine kv rfl (aa iI rfl j7 iI) rfl λu=> ?_|refine dq rfl iI rfl hx iI ?_|refine aw (r:=[4]) (by decide+kernel) rfl rfl ⟨?_,trivial⟩|refine aw (r:=[5]) (by decide+kernel) rfl rfl ⟨?_,trivial⟩|refine aw (r:=[3]) (by decide+kernel) rfl rfl ⟨?_,trivial⟩|refine aw (r:=[2]) (by decide+kernel) rfl rfl ⟨?_,trivial⟩|refine aw (r:=[2,4]) (by decide+kernel) rfl rfl ⟨?_,?_,trivial⟩|refine aw (r:=[3,4]) (by decide+kernel) rfl rfl ⟨?_,?_,trivial⟩|refine aw (r:=[1,4]) (by decide+kernel) rfl rfl ⟨?_,?_,trivial⟩|refine aw (r:=[1,5]) (by decide+kernel) rfl rfl ⟨?_,?_,trivial⟩|refine aw (r:=[1,3]) (by decide+kernel) rfl rfl ⟨?_,?_,trivial⟩|refine aw (r:=[1,2]) (by decide+kernel) rfl rfl ⟨?_,?_,trivial⟩|refine aw (r:=[0,4]) (by decide+kernel) rfl rfl ⟨?_,?_,trivial⟩|refine aw (r:=[0,5]) (by decide+kernel) rfl rfl ⟨?_,?_,trivial⟩|refine aw (r:=[0,3]) (by decide+kernel) rfl rfl ⟨?_,?_,trivial⟩|refine aw (r:=[0,2]) (by decide+kernel) rfl rfl ⟨?_,?_,trivial⟩|refine aw (r:=[0,2,4]) (by decide+kernel) rfl rfl ⟨?_,?_,?_,trivial⟩|refine aw (r:=[1,2,4]) (by decide+kernel) rfl rfl ⟨?_,?_,?_,trivial⟩|refine aw (r:=[1,3,4]) (by decide+kernel) rfl rfl ⟨?_,?_,?_,trivial⟩|refine aw (r:=[0,3,4]) (by decide+kernel) rfl rfl ⟨?_,?_,?_,trivial⟩)
     all_goals
      repeat' (first|with_reducible refine ij ?_|with_reducible refine kH ?_)
      refine jm rfl rfl iI iI rfl rfl ?_
      simp only[j6,ey,hd]
      exact⟨.slice none 0 0,rfl,ah⟩
   ·have j7:=AF w0 (l.drop (8*i)) v' gg X (by omega);have mF:=AF w0 ((l.drop (8*i)).drop 4) (cq 1 v' 4) gg X (by omega);have he:dZ l (i+1)=dZ l i++[(bm (l.drop (8*i)) 0,bm ((l.drop (8*i)).drop 4) 0)]:=by simp[dZ,cI]
    have Ca:eX w0 X (cq 1 (cq 1 v' 4) 4) UInt8 1 bU (((l.drop (8*i)).drop 4).drop 4):=iI;rw[uax,uax,show 8*i+(4+4)=8*(i+1) by omega]at Ca;have Eo:=jZ l i;repeat' (first
     |(refine ab ?_;intro K hK)
     |(refine hK _ ?_;clear hK K)
     |(with_reducible (first|refine vZ ?_|refine Gv ?_|refine rH ?_|refine BS ?_|refine rI rfl ?_|refine Bl ?_|refine wO ?_|refine Gy (by assumption) ?_))
     |refine pt ?_
     |refine z7 ?_
     |(show LS _ _ _ _ _ (⟨_,_,_,_,_,some _⟩::_) _;first|refine IW rfl rfl iI rfl ?_|refine IT rfl rfl iI rfl ?_|refine IX rfl rfl rfl ?_|((first|refine IV rfl rfl rfl ?_ ?_|refine Qr rfl ?_ ?_)<;>intro hc<;>(try simp only[cS]at hc)<;>(try(exfalso;first|contradiction|omega;done))))
     |(first|refine LD ?_|refine LI ?_|refine LG ?_|refine LF ?_|refine LH ?_)
     |(first|refine GB rfl ?_|refine By rfl rfl ?_)
     |(refine aL iI rfl ?_;intro g)
     |((first|refine' LQ ?zh rfl ?_|refine' bP rfl rfl rfl ?zh ?_|refine' bk rfl rfl ?zh ?_);case zh=>intro F';first|exact bC rfl|exact kC rfl|exact db rfl|exact bq rfl iI rfl|exact ca rfl iI iI rfl|exact bp rfl rfl iI (by first|assumption|omega|decide)|exact bH rfl rfl iI (by first|assumption|omega|decide)|exact fC rfl rfl iI (by first|assumption|omega|decide)|exact du rfl rfl iI (by first|assumption|omega|decide)|exact wj rfl rfl (by omega)|exact I3 rfl rfl (by omega)|exact BE rfl iI rfl|exact BD rfl iI rfl|exact zga rfl rfl rfl|exact Tq rfl iI|exact kZ rfl iI iI rfl|exact LP iI iI rfl rfl|exact IY iI iI iI rfl rfl|exact M4 rfl iI|exact NX rfl iI|exact eG rfl iI iI rfl (by first|assumption|omega|(simp[al]<;>omega))|exact lg rfl iI iI iI (by assumption) rfl|exact lg rfl iI iI iI rfl rfl|exact ja rfl iI iI iI (by assumption)|exact I1 rfl iI iI|exact NW rfl iI iI|exact wk rfl iI iI iI|exact eV rfl iI iI iI|exact kD rfl iI iI iI|exact kY rfl iI rfl iI iI iI|exact zcu rfl iI iI (by omega)|exact fu rfl iI iI|exact po rfl iI iI|exact Aa rfl iI iI|exact zeB rfl iI iI rfl iI iI iI|exact kP rfl rfl (by first|omega|(simp[al]<;>omega))|exact DE rfl rfl|exact zbs rfl|exact NZ rfl rfl (by omega)|exact zeS rfl rfl (by omega)|exact DF rfl (by omega)|exact I2 rfl rfl (by omega))
     |((first|refine dn rfl rfl iI rfl ?_ ?_|refine dm rfl rfl iI rfl ?_ ?_|refine dU rfl rfl iI rfl ?_ ?_)<;>intro hc)
     |((first|refine' LQ ?zh rfl ?_|refine' bP rfl rfl rfl ?zh ?_|refine' bk rfl rfl ?zh ?_);case zh=>intro F';first|exact bE rfl rfl iI)
     |((first|refine' ai ?zh rfl ?_|refine' aD ?zh rfl rfl rfl ?_);(case zh=>first|exact ph iI|exact rj rfl|exact NS rfl iI|exact lF iI iI iI rfl rfl rfl rfl rfl iI rfl rfl|exact yq iI iI|exact te rfl rfl iI iI rfl iI iI mS (by first|omega|(simp[al]<;>omega)) rfl|exact zdz rfl rfl iI iI iI rfl rfl iI (by first|omega|(simp[al]<;>omega)) rfl|exact GD rfl rfl iI rfl iI iI (by first|omega|(simp[al]<;>omega)) rfl|exact Fx rfl iI rfl iI iI iI|exact zf9 rfl (by first|rfl|assumption));intro g)
     |((first|refine' bL ?zh ?_|refine' dP ?zh rfl rfl ?_);(case zh=>first|exact IN rfl rfl iI iI iI rfl|exact GG rfl rfl iI iI iI rfl|exact oF rfl rfl iI iI rfl iI (by first|assumption|omega|(simp[al]<;>omega))|exact gV _ rfl rfl rfl iI iI iI rfl rfl (by first|assumption|omega|(simp[al]<;>omega))|exact dB _ rfl rfl iI iI iI rfl (by assumption) rfl|exact kV rfl rfl iI (by first|rfl|assumption) iI rfl|exact bo rfl rfl iI iI (by first|rfl|(simp only[uao,uaK, *];rfl)) rfl);intro g)
     |(first|refine oG ?_|refine FD ?_|refine DI ?_|refine FC ?_|refine I9 ?_)
     |(show WS _ _ _ (.cond _ _ _) _ _;first|refine wy rfl iI ?_|refine BH rfl iI ?_|refine wx rfl (by assumption) ?_|refine wu rfl (by assumption) ?_|(refine pr rfl ?_ ?_<;>intro hc<;>(try simp only[cS]at hc)<;>(try(exfalso;first|contradiction|omega;done))))
     |(show WS _ _ _ (.region 22 _ true) _ _;refine BJ 2 [0,1,2,4,3,5,6,7,8,9,10] 10 [1] (by kernel_rfl) rfl rfl iI ?_)
     |(refine aD (aa iI rfl j7 iI) rfl rfl rfl ?_;intro u)
     |(refine aD (aa iI rfl mF iI) rfl rfl rfl ?_;intro u)
     |(refine aD (au bB [(bm (l.drop (8*i)) 0,bm ((l.drop (8*i)).drop 4) 0)] iI iI iI rfl rfl rfl rfl rfl iI rfl rfl rfl) rfl rfl rfl ?_;intro vb)
     |(refine aD (aR rfl rfl iI iI rfl iI iI lA (by first|omega|(simp[al]<;>omega)) rfl) rfl rfl rfl ?_;intro v2))
    refine⟨m - 1,_,by omega,⟨i+1,_,v2,by omega,by omega,Ca,rfl⟩,cG,rfl,?_⟩;rw[he];exact ah
  ·obtain rfl:i=n.toNat:=by omega
   repeat' (first
    |(refine ab ?_;intro K hK)
    |(refine hK _ ?_;clear hK K)
    |(with_reducible (first|refine vZ ?_|refine Gv ?_|refine rH ?_|refine BS ?_|refine rI rfl ?_|refine Bl ?_|refine wO ?_|refine Gy (by assumption) ?_))
    |refine pt ?_
    |refine z7 ?_
    |(show LS _ _ _ _ _ (⟨_,_,_,_,_,some _⟩::_) _;first|refine IW rfl rfl iI rfl ?_|refine IT rfl rfl iI rfl ?_|refine IX rfl rfl rfl ?_|((first|refine IV rfl rfl rfl ?_ ?_|refine Qr rfl ?_ ?_)<;>intro hc<;>(try simp only[cS]at hc)<;>(try(exfalso;first|contradiction|omega;done))))
    |(first|refine LD ?_|refine LI ?_|refine LG ?_|refine LF ?_|refine LH ?_)
    |(first|refine GB rfl ?_|refine By rfl rfl ?_)
    |(refine aL iI rfl ?_;intro g)
    |((first|refine' LQ ?zh rfl ?_|refine' bP rfl rfl rfl ?zh ?_|refine' bk rfl rfl ?zh ?_);case zh=>intro F';first|exact bC rfl|exact kC rfl|exact db rfl|exact bq rfl iI rfl|exact ca rfl iI iI rfl|exact bp rfl rfl iI (by first|assumption|omega|decide)|exact bH rfl rfl iI (by first|assumption|omega|decide)|exact fC rfl rfl iI (by first|assumption|omega|decide)|exact du rfl rfl iI (by first|assumption|omega|decide)|exact wj rfl rfl (by omega)|exact I3 rfl rfl (by omega)|exact BE rfl iI rfl|exact BD rfl iI rfl|exact zga rfl rfl rfl|exact Tq rfl iI|exact kZ rfl iI iI rfl|exact LP iI iI rfl rfl|exact IY iI iI iI rfl rfl|exact M4 rfl iI|exact NX rfl iI|exact eG rfl iI iI rfl (by first|assumption|omega|(simp[al]<;>omega))|exact lg rfl iI iI iI (by assumption) rfl|exact lg rfl iI iI iI rfl rfl|exact ja rfl iI iI iI (by assumption)|exact I1 rfl iI iI|exact NW rfl iI iI|exact wk rfl iI iI iI|exact eV rfl iI iI iI|exact kD rfl iI iI iI|exact kY rfl iI rfl iI iI iI|exact zcu rfl iI iI (by omega)|exact fu rfl iI iI|exact po rfl iI iI|exact Aa rfl iI iI|exact zeB rfl iI iI rfl iI iI iI|exact kP rfl rfl (by first|omega|(simp[al]<;>omega))|exact DE rfl rfl|exact zbs rfl|exact NZ rfl rfl (by omega)|exact zeS rfl rfl (by omega)|exact DF rfl (by omega)|exact I2 rfl rfl (by omega))
    |((first|refine dn rfl rfl iI rfl ?_ ?_|refine dm rfl rfl iI rfl ?_ ?_|refine dU rfl rfl iI rfl ?_ ?_)<;>intro hc)
    |((first|refine' LQ ?zh rfl ?_|refine' bP rfl rfl rfl ?zh ?_|refine' bk rfl rfl ?zh ?_);case zh=>intro F';first|exact bE rfl rfl iI)
    |((first|refine' ai ?zh rfl ?_|refine' aD ?zh rfl rfl rfl ?_);(case zh=>first|exact ph iI|exact rj rfl|exact NS rfl iI|exact lF iI iI iI rfl rfl rfl rfl rfl iI rfl rfl|exact rl iI iI iI rfl rfl rfl rfl rfl|exact yq iI iI|exact te rfl rfl iI iI rfl iI iI mS (by first|omega|(simp[al]<;>omega)) rfl|exact zdz rfl rfl iI iI iI rfl rfl iI (by first|omega|(simp[al]<;>omega)) rfl|exact GD rfl rfl iI rfl iI iI (by first|omega|(simp[al]<;>omega)) rfl|exact Fx rfl iI rfl iI iI iI|exact zf9 rfl (by first|rfl|assumption));intro g)
    |((first|refine' bL ?zh ?_|refine' dP ?zh rfl rfl ?_);(case zh=>first|exact IN rfl rfl iI iI iI rfl|exact GG rfl rfl iI iI iI rfl|exact oF rfl rfl iI iI rfl iI (by first|assumption|omega|(simp[al]<;>omega))|exact gV _ rfl rfl rfl iI iI iI rfl rfl (by first|assumption|omega|(simp[al]<;>omega))|exact dB _ rfl rfl iI iI iI rfl (by assumption) rfl|exact kV rfl rfl iI (by first|rfl|assumption) iI rfl|exact bo rfl rfl iI iI (by first|rfl|(simp only[uao,uaK, *];rfl)) rfl);intro g)
    |(first|refine oG ?_|refine FD ?_|refine DI ?_|refine FC ?_|refine I9 ?_)
    |(show WS _ _ _ (.cond _ _ _) _ _;first|refine wy rfl iI ?_|refine BH rfl iI ?_|refine wx rfl (by assumption) ?_|refine wu rfl (by assumption) ?_|(refine pr rfl ?_ ?_<;>intro hc<;>(try simp only[cS]at hc)<;>(try(exfalso;first|contradiction|omega;done))))
    |refine mO (by kernel_rfl) ?_
    |refine iv rfl rfl rfl ?_
    |refine IQ rfl iI iI ?_
    |(refine kz rfl iI iI rfl ?_)
    |(refine vF rfl iI iI rfl ?_ ?_<;>(intro hc;try simp only[uK]at hc))
    |(refine LM rfl iI iI iI rfl ?_ ?_<;>(intro hc;try simp only[uK]at hc))
    |(refine kW rfl rfl ?_ ?_<;>(intro hc;first|(cases hc;done)|skip))
    |with_reducible refine ij ?_
    |with_reducible refine kH ?_)
   all_goals
    first
    |(have hd:Pk.dec (t::k::f::z::n::l)=none:=by rw[Cc,eQ];omega
      refine jm rfl rfl iI iI rfl rfl ?_
      simp only[j6,ey,hd]
      exact⟨.slice none 0 0,rfl,ah⟩)
    |(have hd:=Cc.trans (jF (by omega))
      refine xR rfl rfl iI iI rfl ?_
      simp only[j6,ey,hd,CV,uz]
      exact⟨vl,by simp[Pk.val,Pk.cells,h2],ah⟩)
end
section
open Go.RowKit
theorem FM {t k f z n:UInt8} {l} (h:z.toNat≠0\/t.toNat=0):Pk.dec (t::k::f::z::n::l)=none:=by
 simp only[Pk.dec];rw[eQ];rintro⟨h1,h2⟩;rcases h with h|h
 ·exact h (by rw[h1];rfl)
 ·exact h2 (ZW.1 (by rw[h];rfl))
theorem BW {t k f z n:UInt8} {l} (h:f.toNat≠0) (h2:f.toNat≠8\/k.toNat≠1):Pk.dec (t::k::f::z::n::l)=none:=by
 have h0:f≠0:=λe=>h (by rw[e];rfl);have h8:f=8->k≠1:=λe e2=>by
  rcases h2 with h2|h2
  ·exact h2 (by rw[e];rfl)
  ·exact h2 (by rw[e2];rfl)
 simp only[Pk.dec];split
 ·unfold Pk.body;repeat' split
  all_goals first
   |rfl
   |(rename_i hk hc;exfalso;rcases hc.2 with e|⟨e,_⟩<;>first|exact h0 e|exact h8 e hk)
   |(exfalso;simp_all;done)
 ·rfl
theorem JB {t k f z n:UInt8} {l} (h1:k.toNat≠1) (h2:k.toNat≠2) (h3:k.toNat≠3) (h9:k.toNat≠9):Pk.dec (t::k::f::z::n::l)=none:=by
 have k1:k≠1:=λe=>h1 (by rw[e];rfl);have k2:k≠2:=λe=>h2 (by rw[e];rfl);have k3:k≠3:=λe=>h3 (by rw[e];rfl);have k9:k≠9:=λe=>h9 (by rw[e];rfl);simp only[Pk.dec,Pk.body,eQ k1,eQ k2,eQ k3,eQ k9,ite_self]
attribute [local irreducible] WS LS OpQ y6 cn cv Spec bA iR iQ aK
variable (w0:World)
theorem sT (l:List UInt8) (hl:l.length<=100000) (v X) [hX:eX w0 X v UInt8 1 bU l]:Spec ucC w0 35 [v] X (λv':Value=>j6 l v') (λv'=>ey l v' X):=by
 rcases jP l.length 5 with h5|h5
 ·exact yO w0 l h5 v X
 obtain⟨t,k,f,z,n,r,rfl⟩:∃t k f z n r,l=t::k::f::z::n::r:=by
  match l,h5 with
  |t::k::f::z::n::r,_=>exact⟨t,k,f,z,n,r,rfl⟩
 have hr:r.length<=100000:=by simp at hl;omega
 by_cases hz:z.toNat=0
 ·by_cases ht:t.toNat=0
  ·exact sS w0 t k f z n r hr (FM (.inr ht)) (by omega) v X
  ·by_cases hf:f.toNat=0
   ·by_cases h1:k.toNat=1
    ·exact MW w0 t k f z n r hr hz (by omega) hf h1 v X
    ·by_cases h2:k.toNat=2
     ·exact PM w0 t k f z n r hr hz (by omega) hf h2 v X
     ·by_cases h3:k.toNat=3
      ·exact PN w0 t k f z n r hr hz (by omega) hf h3 v X
      ·by_cases h9:k.toNat=9
       ·exact PO w0 t k f z n r hr hz (by omega) hf h9 v X
       ·exact Fo w0 t k f z n r hr (JB h1 h2 h3 h9) hz (by omega) hf h1 h2 h3 h9 v X
   ·by_cases h8:f.toNat=8
    ·by_cases h1:k.toNat=1
     ·exact MX w0 t k f z n r hr hz (by omega) h8 h1 v X
     ·exact sS w0 t k f z n r hr (BW hf (.inr h1)) (by omega) v X
    ·exact sS w0 t k f z n r hr (BW hf (.inl h8)) (by omega) v X
 ·exact sS w0 t k f z n r hr (FM (.inl hz)) (by omega) v X
def gl (l:List UInt8) (v':Value):Value:= .tuple #[((Pk.dec l).getD Pk.zero).val v',.int .i64 (if(Pk.dec l).isSome then 0 else 1)]
end
section
open Go.RowKit
instance SA {P:Program} {t e:TypeId} [h:eN P t (.pointer e)]:dL P .eql t (.pointer none) (.pointer none) (.bool true):=⟨λw=>by
 have hp:P.pointee t=e:=by simp[Program.pointee,h.eq]
 exact run_eql_pointer_nil (w:=w) t none (by rw[hp];exact h.eq),λw _ _=>by rfl⟩
instance Td {P:Program} {t e:TypeId} [h:eN P t (.pointer e)]:dL P .neq t (.pointer none) (.pointer none) (.bool false):=⟨λw=>by
 have hp:P.pointee t=e:=by simp[Program.pointee,h.eq]
 exact run_neq_pointer_nil (w:=w) t none (by rw[hp];exact h.eq),λw _ _=>by rfl⟩
section
variable {P:Program} {n:fT} {w0:World} {E:Env} {D:List Deferred} {H F F1 F2:af} {Q:Exit->St->Prop} {l l':List Oper}
theorem GN {id} (t idx) {g off bt cs} (hs:iT P l idx (λ_=>false) 1000=true) (hl:jK l idx=some l') (hx:E.get t=some (ptr g off)) (hR:v7 H g bt cs F) (h:DL P n w0 l.toArray Q D (aK g bt cs) emp (λ_=>false) 1000 0 false l' E F):WS P n w0 (.region id l.toArray true) Q ⟨E,D,H⟩:=
 iK idx l' (aK g bt cs) emp F _ 1000 hs (by rw[aB];exact hR.eq) (gO hl) h
theorem nA {id:Nat} (t:Nat) (idx:List Nat) {g off:Nat} {bt:TypeId} {cs:List Value} (h:DL P n w0 l.toArray Q D (aK g bt cs) emp (λ_=>false) 1000 0 false l' E F) (hs:iT P l idx (λ_=>false) 1000=true:=by decide+kernel) (hl:jK l idx=some l':=by rfl) (hx:E.get t=some (ptr g off):=by rfl) (hR:v7 H g bt cs F:=by exact iI):WS P n w0 (.region id l.toArray true) Q ⟨E,D,H⟩:=GN t idx hs hl hx hR h
theorem GO {id:Nat} (t t2:Nat) (idx:List Nat) {g off g2 A5:Nat} {bt rJ:TypeId} {cs pV:List Value} (hs:iT P l idx (λ_=>false) 1000=true) (hl:jK l idx=some l') (hx:E.get t=some (ptr g off)) (qb:E.get t2=some (ptr g2 A5)) (hR:v7 H g bt cs F1) (Ca:v7 F1 g2 rJ pV F) (h:DL P n w0 l.toArray Q D (aK g bt cs*aK g2 rJ pV) emp (λ_=>false) 1000 0 false l' E F):WS P n w0 (.region id l.toArray true) Q ⟨E,D,H⟩:=
 iK idx l' (aK g bt cs*aK g2 rJ pV) emp F _ 1000 hs (by rw[aB,hR.eq,Ca.eq,ad]) (gO hl) h
theorem aE {id:Nat} (t t2:Nat) (idx:List Nat) {g off g2 A5:Nat} {bt rJ:TypeId} {cs pV:List Value} (h:DL P n w0 l.toArray Q D (aK g bt cs*aK g2 rJ pV) emp (λ_=>false) 1000 0 false l' E F) (hs:iT P l idx (λ_=>false) 1000=true:=by decide+kernel) (hl:jK l idx=some l':=by rfl) (hx:E.get t=some (ptr g off):=by rfl) (qb:E.get t2=some (ptr g2 A5):=by rfl) (hR:v7 H g bt cs F1:=by exact iI) (Ca:v7 F1 g2 rJ pV F:=by exact iI):WS P n w0 (.region id l.toArray true) Q ⟨E,D,H⟩:=GO t t2 idx hs hl hx qb hR Ca h
theorem zb0 {id:Nat} (t t2 t3:Nat) (idx:List Nat) {g off g2 A5 g3 U8:Nat} {bt rJ DV:TypeId} {cs pV D2:List Value} (hs:iT P l idx (λ_=>false) 1000=true) (hl:jK l idx=some l') (hx:E.get t=some (ptr g off)) (qb:E.get t2=some (ptr g2 A5)) (Wo:E.get t3=some (ptr g3 U8)) (hR:v7 H g bt cs F1) (Ca:v7 F1 g2 rJ pV F2) (QL:v7 F2 g3 DV D2 F) (h:DL P n w0 l.toArray Q D (aK g bt cs*(aK g2 rJ pV*aK g3 DV D2)) emp (λ_=>false) 1000 0 false l' E F):WS P n w0 (.region id l.toArray true) Q ⟨E,D,H⟩:=
 iK idx l' (aK g bt cs*(aK g2 rJ pV*aK g3 DV D2)) emp F _ 1000 hs (by rw[aB,hR.eq,Ca.eq,QL.eq,ad,ad]) (gO hl) h
theorem bA.of {f args X v} (h:Spec P w0 f args X (λ_:Unit=>v) (λ_=>X)) (o:Own H X F):bA P w0 f args H v:=λw hs=>by
 refine(h F w (hs.cast o.eq)).mono ?_;rintro e w' ⟨_,he,eI⟩;exact⟨he,eI.cast o.eq.symm⟩
theorem oC {ops:Array Oper} {R L F0 X:af} {f:FuncId} {args:List Value} {v:Value} {d:Nat} {xs:List Operand} {ts:Array TypeId} {ty:TypeId} {pos:String} {after:Array Edge} {B:Nat->Bool} {k cp:Nat} {l:List Oper} (hf:aA P f) (eB:E.mU xs=some args) (spec:Spec P w0 f args X (λ_:Unit=>v) (λ_=>X)) (ho:Own L X F0) (hd:Nat.blt d n.tmps=true)
 (h:DL P n w0 ops Q D R L B cp (k+1) false l ((d,v)::E) F):DL P n w0 ops Q D R L B cp k false (⟨some d,.call ⟨.value (.func f),xs.toArray,ts⟩,ty,pos,after,none⟩::l) E F:=
 M0 rfl rfl hd (λF'=>LW hf eB (bA.of (F:=R*(F0*F')) spec ⟨by show R*(L*F')=_;rw[ho.eq,ad,aM]⟩)) h
end
section
variable {P:Program} {n:fT} {w0:World} {E:Env} {D:List Deferred} {H F:af} {d:Option Tmp} {t ty:TypeId} {pos:String} {after:Array Edge} {gu:Option (Nat×Bool)} {x y:Operand} {r kt et:Nat} {v u:Value} {κ ν:Type} [DecidableEq κ] {fk:κ->Value} {fv:ν->Value} {m:List (κ×ν)} {k:κ}
theorem fh {z:Value} {zs:List Value} (hx:E.ev x=some (.map (some r))) (hy:E.ev y=some v) (hl:jQ H r κ ν fk fv m F) (hkk:zaF fk v k) (hm:rp P t kt et) (hz:Zero P et z zs) (hk:ou P kt fk) (hu:tZ fv z (bX m k)=u):OpQ P n w0 ⟨d,.lookup t x y false,ty,pos,after,gu⟩ E H u:=hu▸wm hx hy hl hkk hm hz hk
end
end
section
open Go.RowKit
variable {P:Program} {n:fT} {w0:World} {E:Env} {D:List Deferred} {H F R L:af} {ops:Array Oper} {Q:Exit->St->Prop} {post:List Nat} {f:Nat} {ao:Array Bool} {c:Bool}
def DT (P:Program) (n:fT) (w0:World) (ops:Array Oper) (Q:Exit->St->Prop) (D:List Deferred) (R L:af) (post:List Nat) (f:Nat) (ao:Array Bool) (c:Bool) (E:Env) (F:af):Prop:=
 ∀a w,fV n E a->a.defers=D->Sat w0 w (hp c R L F)->Down ops ao->j5 w0 ops R L post ao w->kS P ops (j1 (lift n w0 Q)) (j5 w0 ops R L post) f ao a w
def DO (P:Program) (n:fT) (w0:World) (ops:Array Oper) (Q:Exit->St->Prop) (D:List Deferred) (R L:af) (post:List Nat) (f:Nat) (ao:Array Bool) (c:Bool) (E:Env) (F:af) (i:Nat):Prop:=
 ∀a w,fV n E a->a.defers=D->Sat w0 w (hp c R L F)->Down ops ao->j5 w0 ops R L post ao w->i∈Region.ready .any ops ao->wpOp P ops (j1 (lift n w0 Q)) i (λa' w'=>j5 w0 ops R L post (ao.setIfInBounds i true) w'/\kS P ops (j1 (lift n w0 Q)) (j5 w0 ops R L post) f (ao.setIfInBounds i true) a' w') a w
def N2 (P:Program) (n:fT) (w0:World) (ops:Array Oper) (Q:Exit->St->Prop) (D:List Deferred) (R L:af) (post:List Nat) (f:Nat) (ao:Array Bool) (c:Bool) (E:Env) (F:af):List Nat->Prop
 |[]=>True
 |i::r=>DO P n w0 ops Q D R L post f ao c E F i/\N2 P n w0 ops Q D R L post f ao c E F r
theorem BO:∀{r:List Nat},N2 P n w0 ops Q D R L post f ao c E F r->∀i∈r,DO P n w0 ops Q D R L post f ao c E F i
 |[],_,i,hi=>by cases hi
 |j::r,h,i,hi=>by
  rcases JA.1 hi with rfl|hi
  ·exact h.1
  ·exact BO h.2 i hi
theorem ed (r:List Nat) (h:N2 P n w0 ops Q D R L post f ao c E F r) (hr:Region.ready .any ops ao=r:=by decide+kernel) (mi:r.isEmpty=false:=by decide+kernel):DT P n w0 ops Q D R L post (f+1) ao c E F:=λa w hs hD je hd hS=>by
 refine⟨λh0=> ?_,λi hi=> ?_⟩
 ·rw[hr]at h0;subst h0;cases mi
 ·exact BO h i (by rw[<-hr];exact hi) a w hs hD je hd hS hi
theorem kx {i} (h:DO P n w0 ops Q D R L post f ao true E (L*F) i):DO P n w0 ops Q D R L post f ao false E F i:=λa w hs hD je hd hS hr=>h a w hs hD je hd hS hr
theorem IJ (hr:(Region.ready .any ops ao).isEmpty=true) (hH:H=hp c R L F) (h:Q .normal ⟨E,D,H⟩):DT P n w0 ops Q D R L post f ao c E F:=λa w hs hD je hd hS=>
 uR (by simpa using hr) ⟨_,h,hs,hD,je.cast hH.symm⟩ f
theorem oE (h:Q .normal ⟨E,D,R*F⟩) (hr:(Region.ready .any ops ao).isEmpty=true:=by decide+kernel):DT P n w0 ops Q D R L post f ao true E F:=IJ hr rfl h
theorem Fu {i} {o:Oper} {v} (hi:ops[i]? =some o) (rY:Region.noSelect ops=true) (OF:post.contains i=false) (rV:Region.free .any ops ao i=true) (hr:(Region.ready .any ops ao).contains i=true) (T) (hT:∀ao w,Down ops ao->ao.getD i true=false->j5 w0 ops R L post ao w->T w) (gG:gC n o.dst=true) (hy:∀a,fV n E a->YieldsIf P ops T o v a) (h:DT P n w0 ops Q D R L post f (ao.setIfInBounds i true) c (E.zaI o.dst v) F):DT P n w0 ops Q D R L post (f+1) ao c E F:=λa w hs hD je hd hS=>by
 have Hn:i∈Region.ready .any ops ao:=by simpa using hr
 have Ud:i∉post:=λhm=>by
  have:post.contains i=true:=by simpa using hm
  rw[OF]at this;cases this
 refine sU hi rY (λ_ _ _ h=>h) T hT (λao w h=>h.set i) (λao j w QY Q7 pZ hj h=>by
  obtain⟨F',h⟩:=h
  refine⟨F',?_⟩
  rw[ubm _ _ (uaT pZ),FG Ud]at h
  exact h) f ao a w hd (λj oj OS pZ Qb zt=>Region.free_spec hi rV j oj OS pZ Qb zt) Hn (hy a hs) hS ?_
 exact h _ w (hs.zaI _ _ gG) (by cases o.dst<;>exact hD) je (hd.set Hn) (hS.set i)
section
variable {i d:Nat} {op:Op} {ty:TypeId} {pos:String} {after:Array Edge} {v:Value}
theorem ec (i) (hi:ops[i]? =some ⟨some d,op,ty,pos,after,none⟩) (iZ:∀F',OpQ P n w0 ⟨some d,op,ty,pos,after,none⟩ E (R*F') v) (h:DT P n w0 ops Q D R L post f (ao.setIfInBounds i true) c ((d,v)::E) F) (rY:Region.noSelect ops=true:=by decide+kernel) (OF:post.contains i=false:=by decide+kernel) (rV:Region.free .any ops ao i=true:=by decide+kernel) (hr:(Region.ready .any ops ao).contains i=true:=by decide+kernel) (hd:Nat.blt d n.tmps=true:=by decide+kernel):DT P n w0 ops Q D R L post (f+1) ao c E F:=
 Fu hi rY OF rV hr (λw=>∃F',Sat w0 w (R*F')) (λ_ _ _ _ h=>h.read) (by simpa [gC,ub6]using hd) (λa hs=> .inl ⟨rfl,λw hw=>by obtain⟨F',hw⟩:=hw;exact iZ F' a w hs hw⟩) h
theorem yQ (i) (hi:ops[i]? =some ⟨some d,op,ty,pos,after,none⟩) (iZ:∀F',OpQ P n w0 ⟨some d,op,ty,pos,after,none⟩ E (R*(L*F')) v) (h:DT P n w0 ops Q D R L post f (ao.setIfInBounds i true) c ((d,v)::E) F) (rY:Region.noSelect ops=true:=by decide+kernel) (OF:post.contains i=false:=by decide+kernel) (rV:Region.free .any ops ao i=true:=by decide+kernel) (hr:(Region.ready .any ops ao).contains i=true:=by decide+kernel) (hd:Nat.blt d n.tmps=true:=by decide+kernel) (X6:(post.all λj=>(BX ops i ops.size).contains j)=true:=by decide+kernel):DT P n w0 ops Q D R L post (f+1) ao c E F:=
 Fu hi rY OF rV hr (λw=>∃F',Sat w0 w (R*(L*F'))) (λao w QY Q7 h=>by
  obtain⟨F',h⟩:=h
  have:post.any (λj=>ao.getD j false)=false:=by
   rw[<-ubi,ZV];rintro⟨j,hj,hl⟩;have Ug:=uaG.1 X6 j hj;rw[rO QY Q7 j (by simpa using Ug)]at hl;cases hl
  rw[this]at h
  exact⟨F',h⟩) (by simpa [gC,ub6]using hd) (λa hs=> .inl ⟨rfl,λw hw=>by obtain⟨F',hw⟩:=hw;exact iZ F' a w hs hw⟩) h
theorem z1 {o:Oper} {α:Type} {v:α->Value} {vm:α->af} {G:af} (hi:ops[i]? =some o) (hg:o.guard=none) (iZ:cn P n w0 o E G v vm) (hG:G=hp c R L F) (gG:gC n o.dst=true) (hc:(!c||post.contains i||post.any λj=>ao.getD j false)=true)
 (F2:α->af) (Xl:∀x,vm x=hp c R L (F2 x)) (h:∀x,DT P n w0 ops Q D R L post f (ao.setIfInBounds i true) c (E.zaI o.dst (v x)) (F2 x)):DO P n w0 ops Q D R L post f ao c E F i:=λa w hs hD je hd hS hr=>by
 have Cf:∀x w',Sat w0 w' (hp c R L (F2 x))->j5 w0 ops R L post (ao.setIfInBounds i true) w':=λx w' eI=>by
  cases vR:c with
  |false=>rw[vR]at eI;exact .whole eI
  |true=>
   rw[vR]at eI hc;refine .Py ?_ eI;have bW:i<ao.size:=by
    have:=(mem_ready.1 hr).1;rcases jP i ao.size with h|h
    ·exact h
    ·simp[WB h]at this
   simp only[ubO,uaI,ucj]at hc;rcases hc with hc|hc
   ·exact ZV.2 ⟨i,by simpa using hc,by simp[bW]⟩
   ·obtain⟨j,hj,hl⟩:=ZV.1 hc;exact ZV.2 ⟨j,hj,getD_set_true hl⟩
 unfold wpOp
 rw[hi]
 simp only
 rw[jF (by unfold Region.wanted;rw[hg])]
 refine .inl ?_
 obtain⟨pre,A8,G',hT,hH,qZ⟩:=iZ
 refine hT G' a w _ _ hs (je.cast (hG.symm.trans hH)) λx w' eI=> ?_
 have fP:=eI.cast ((qZ x).symm.trans (Xl x))
 exact⟨Cf x w' fP,h x _ w' (hs.zaI _ _ gG) (by cases o.dst<;>exact hD) fP (hd.set hr) (Cf x w' fP)⟩
theorem wb (i:Nat) {α:Type} {v:α->Value} {vm:α->af} (hi:ops[i]? =some ⟨some d,op,ty,pos,after,none⟩) (iZ:cn P n w0 ⟨some d,op,ty,pos,after,none⟩ E F v vm)
 (h:∀x,DT P n w0 ops Q D R L post f (ao.setIfInBounds i true) false ((d,v x)::E) (vm x)) (hd:Nat.blt d n.tmps=true:=by decide+kernel):DO P n w0 ops Q D R L post f ao false E F i:=by
 have Et:cn P n w0 ⟨some d,op,ty,pos,after,none⟩ E (hp false R L F) v (λx=>hp false R L (vm x)):=by
  obtain⟨pre,A8,G',hT,hH,qZ⟩:=iZ;refine⟨pre,A8,R*(L*G'),hT,?_,λx=> ?_⟩
  ·simp only[hp,Yv];rw[hH];ac_rfl
  ·simp only[hp,Yv];rw[qZ];ac_rfl
 exact z1 hi rfl Et rfl (by simpa [gC,ub6]using hd) rfl vm (λ_=>rfl) h
theorem oD (i:Nat) {α:Type} {v:α->Value} {vm:α->af} (hi:ops[i]? =some ⟨some d,op,ty,pos,after,none⟩) (iZ:cn P n w0 ⟨some d,op,ty,pos,after,none⟩ E F v vm)
 (h:∀x,DT P n w0 ops Q D R L post f (ao.setIfInBounds i true) true ((d,v x)::E) (vm x)) (hd:Nat.blt d n.tmps=true:=by decide+kernel) (hc:(post.contains i||post.any λj=>ao.getD j false)=true:=by decide+kernel):DO P n w0 ops Q D R L post f ao true E F i:=by
 have Et:cn P n w0 ⟨some d,op,ty,pos,after,none⟩ E (hp true R L F) v (λx=>hp true R L (vm x)):=by
  exact pa5
 exact z1 hi rfl Et rfl (by simpa [gC,ub6]using hd) hc vm (λ_=>rfl) h
theorem uo (i:Nat) {α:Type} {v:α->Value} {vm:α->af} (hi:ops[i]? =some ⟨none,op,ty,pos,after,none⟩) (iZ:cn P n w0 ⟨none,op,ty,pos,after,none⟩ E F v vm)
 (h:∀x,DT P n w0 ops Q D R L post f (ao.setIfInBounds i true) true E (vm x)) (hc:(post.contains i||post.any λj=>ao.getD j false)=true:=by decide+kernel):DO P n w0 ops Q D R L post f ao true E F i:=by
 have Et:cn P n w0 ⟨none,op,ty,pos,after,none⟩ E (hp true R L F) v (λx=>hp true R L (vm x)):=by
  exact pa5
 exact z1 hi rfl Et rfl rfl hc vm (λ_=>rfl) h
end
theorem rA {id} {l:List Oper} (R L post) (hH:H=R*L) (h:DT P n w0 l.toArray Q D R L post l.length (Array.replicate l.length false) false E emp) (xm:(l.all λo=> !F8 o.op)=true:=by decide+kernel) (hm:P.follows .mixedOrders=true:=by decide+kernel):WS P n w0 (.region id l.toArray true) Q ⟨E,D,H⟩:=λa w g=>by
 have hd:Sat w0 w.drew (R*(L*emp)):=(g.sat.cast (by rw[hH,b5])).drew;have h1:=h a w.drew g.dQ g.defers hd (wX _) (.whole hd);exact pan
theorem nC {x y σ K} (hK:∀τ,WS P n w0 y Q τ->K τ) (I:St->Prop) (h:WS P n w0 x (thenS (λσ'=>∃τ',I τ'/\τ'.E.sub σ'.E/\τ'.D=σ'.D/\aq σ'.H τ'.H) Q) σ) (hm:∀τ,I τ->WS P n w0 y Q τ):WS P n w0 x (thenS K Q) σ:=h.mono λe σ' h=>by
 cases e with
 |normal=>
  obtain⟨τ',hI,e1,e2,e3⟩:=h;exact hK _ λa w g=>hm τ' hI a w (g.low e1 e2 e3)
 |_=>exact h
end
end Go.Proofs.YtapoehkdnglahabGreat

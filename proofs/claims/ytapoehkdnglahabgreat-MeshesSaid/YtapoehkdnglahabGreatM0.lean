/- A part. -/
import Derived.Test.YtapoehkdnglahabGreatMz
import Derived.Test.YtapoehkdnglahabGreatRows
set_option maxHeartbeats 16000000
set_option maxRecDepth 100000
set_option linter.all false
namespace Go.Proofs.YtapoehkdnglahabGreat
section
open Go.ChangeShapes Go.WideShapes Go.ChangeAt Go.RowKit Go.Deep
section
variable {H:Type} {enc:TypeId×Value->H} {P:Program} {w:World} {base:Nat} {spare:Nat->Bool} {held:Bool}
theorem wf_u32 {n} (h:(Lit.int .u32 n).wf=true):∃k:UInt32,n=(k.toNat:Int):=by
 have hb:0<=n/\n<=4294967295:=by simpa [Lit.wf,IntKind.min,IntKind.max,IntKind.signed,IntKind.bits]using h
 exact⟨UInt32.ofNat n.toNat,by rw[ubk];omega⟩
theorem wf_i64 {n} (h:(Lit.int .i64 n).wf=true): -9223372036854775808<=n/\n<=9223372036854775807:=by
 simpa [Lit.wf,IntKind.min,IntKind.max,IntKind.signed,IntKind.bits]using h
theorem sM {t} {fs:Array Field} {fuel} {c:List Value} {y} (hs:P.underlying t=some (.struct fs)) (Cj:oneCellFields P fs=true) (hC:P.cellsOf t=fs.size) (h:DataW.trod enc P w base spare held fuel t c=some y):
 c.length=fs.size/\∃(ys:List (DataW H×List MemPlace)) (n:Nat),y=(.agg (ys.map (·.1)),ys.flatMap (·.2))/\ys.length=fs.size/\∀(j:Nat) (f:Field),fs[j]? =some f->∃v y',c[j]? =some v/\ys[j]? =some y'/\DataW.trod enc P w base spare held n f.type [v]=some y':=by
 obtain⟨ys,n,_,hy,hlen,Ns,hf⟩:=DataW.trod_struct hs h
 refine⟨hlen.trans hC,ys,n,hy,Ns,λj f hj=> ?_⟩
 obtain⟨ho,hk⟩:=hone_of Cj j f hj
 have Ng:j<fs.size:=(Array.getElem?_eq_some_iff.1 hj).1
 have V1:j<c.length:=by rw[hlen,hC];exact Ng
 have h1:=hf j f hj
 rw[ho,hk]at h1
 have Rj:(c.drop j).take 1=[c[j]]:=by
  rw[Sb V1];rfl
 rw[Rj]at h1
 have Nt:ys[j]? =some (ys[j]'(by omega)):=aX (by omega)
 exact⟨c[j],_,aX V1,Nt,h1.trans Nt⟩
end
theorem laid:laidOutB ucC=true:=by kernel_rfl
end
section
open Go.ChangeShapes Go.WideShapes Go.ChangeAt Go.RowKit Go.Deep
def Iw (t:TypeId) {α:Type} (f:α->List Value) (ok:World->α->Prop):Prop:=
 ∀{H:Type} {enc:TypeId×Value->H} {w:World} {base:Nat} {spare:Nat->Bool} {held:Bool} {n:Nat} {c:List Value} {y:DataW H×List MemPlace},DataW.trod enc ucC w base spare held n t c=some y->∃a,c=f a/\ok w a
def Pa (n:Int):List Value:=[.int .i64 n]
def K6 (x:UInt32):List Value:=[u32 x]
def M8 (b:Bool):List Value:=[.bool b]
def MR (l:List UInt8):List Value:=[aZ l]
theorem vM {t} (ht:Tryz.prog.underlying t=some (.int .i64)):Iw t Pa (λ_ n=>cM n):=λh=>by
 obtain⟨n,rfl,_,hw⟩:=DataW.trod_int ht h;exact⟨n,rfl,wf_i64 hw⟩
theorem kq {t} (ht:Tryz.prog.underlying t=some (.int .u32)):Iw t K6 (λ_ _=>True):=λh=>by
 obtain⟨n,rfl,_,hw⟩:=DataW.trod_int ht h;obtain⟨k,rfl⟩:=wf_u32 hw;exact⟨k,rfl,trivial⟩
theorem Jz {t} (ht:Tryz.prog.underlying t=some .bool):Iw t M8 (λ_ _=>True):=λh=>by
 obtain⟨b,rfl,_⟩:=DataW.trod_bool ht h;exact⟨b,rfl,trivial⟩
theorem Au {t} (ht:Tryz.prog.underlying t=some .string):Iw t MR (λ_ l=>l.length<=maxLen):=λh=>by
 obtain⟨s,rfl,_,hs⟩:=DataW.trod_string ht h;refine⟨s.data.toList,?_,by simpa using hs⟩;show [Value.string s]=[Value.string ⟨s.data.toList.toArray⟩]
 simp
def Vj {α:Type} (x:Value×List α):List Value:=[x.1]
theorem zb {α:Type} {f:α->List Value} {ok:World->α->Prop} {size:Nat} {t e:TypeId} (hf:∀x,(f x).length=size) (hp:0<size) (ht:Tryz.prog.underlying t=some (.slice e)) (hC:Tryz.prog.cellsOf e=size) (hd:Iw e f ok):
 Iw t Vj (λw x=>ix w size f x.1 x.2/\∀a∈x.2,ok w a):=λ{H enc w base spare held n c y} h=>by
 rcases open_slice ht h with ⟨rfl,_⟩|⟨a,len,cap,m,n,D,Pl,rfl,hb,hl,hm,XZ,hx,hi⟩
 ·exact⟨(.slice none 0 0,[]),rfl,⟨⟨none,0,rfl,uL _,uau _⟩,λk hk=>absurd hk (ua8 _)⟩,λa ha=>by cases ha⟩
 ·have V7:len<=m:=by rw[XZ];split<;>omega
  have key:∀i,i<len->∃r:α,ok w r/\∀j u,(f r)[j]? =some u->w.cell? (a.add (i*size+j))=some u:=by
   intro i OD;obtain⟨c,hc,xq⟩:=hi i (by omega);obtain⟨r,rfl,hr⟩:=hd xq;rw[hC]at hc;obtain⟨_,_,l5⟩:=World.cells?_some hc;refine⟨r,hr,λj u hu=> ?_⟩;have hj:j<size:=by rw[<-hf r];exact(az.1 hu).1
   rw[<-Go.Deep.add_add,l5 j hj,hu]
  have build:∀k,k<=len->∃l:List α,l.length=k/\(∀r∈l,ok w r)/\∀i (hi:i<l.length),∀j u,(f l[i])[j]? =some u->w.cell? (a.add (i*size+j))=some u:=by
   intro k;induction k with
   |zero=>intro _;exact⟨[],rfl,by simp,λi hi=>by simp at hi⟩
   |succ k ih=>
    intro hk;obtain⟨l,Eo,SU,SS⟩:=ih (by omega);obtain⟨r,S0,hr⟩:=key k (by omega);refine⟨l++[r],by simp[Eo],?_,λi hi j u hu=> ?_⟩
    ·intro x hx;rcases Lz.1 hx with hx|hx
     ·exact SU x hx
     ·simp at hx;subst hx;exact S0
    ·by_cases qE:i<l.length
     ·rw[List.getElem_append_left qE]at hu;exact SS i qE j u hu
     ·simp at hi;have:i=l.length:=by omega
      subst this;simp at hu;rw[Eo];exact hr j u hu
  obtain⟨l,Eo,SU,SS⟩:=build len (uL _)
  subst Eo
  refine⟨(.slice (some a) l.length cap,l),rfl,⟨⟨some a,cap,rfl,hl,hm⟩,λk hk=> ?_⟩,SU⟩
  have hz:0<l.length:=ubZ (uau _) hk
  have h0:∃u,(f l[0])[0]? =some u:=⟨(f l[0])[0]'(by rw[hf];exact hp),aX _⟩
  obtain⟨u0,RB⟩:=h0
  have SL:=SS 0 hz 0 u0 RB
  rw[ucm]at SL
  have No:a=⟨a.block,a.off,none⟩:=by
   obtain⟨b,o,s⟩:=a;cases s with
   |none=>rfl
   |some s=>simp[World.cell?,Addr.add]at SL;split at SL<;>simp at SL
  refine⟨a.block,a.off,cap,by rw[<-No],λj u hj hu=> ?_⟩
  have:=SS k hk j u hu
  rw[No,add_lit]at this
  exact this
theorem ix.WD {α w size f v l} (h:ix w size f v l):eX w (yn w) v α size f l:=⟨λw' hs=>by
 have eI:Sat w w' (yn w*emp):=hs.cast b5.symm;refine⟨h.form,λk hk=> ?_⟩;obtain⟨g,off,cap,hv,hc⟩:=h.cell k hk;exact⟨g,off,cap,hv,λj u hj hu=>eI.KE (hc j u hj hu)⟩⟩
theorem Spec.law {f} {args:List Value} {w:World} (h:Spec ucC w f args (yn w) (λ_:Unit=> .bool true) (λ_=>yn w)):Calls ucC f args.toArray w λe w'=>e= .returned (.bool true)/\Below w.heap.size w w':=
 (h emp w ((Sat.start w).cast b5.symm)).mono λe w' ⟨_,he,hs⟩=>⟨he,hs.ends⟩
theorem vL {t:TypeId} {α:Type} {f:α->List Value} {ok:World->α->Prop} (hd:Iw t f ok) {H:Type} {enc:TypeId×Value->H} {w:World} {base:Nat} {spare:Nat->Bool} {held:Bool} {v:Value} {d:DataW H} {ps:List MemPlace} (h:DataW.Trod enc ucC w base spare held t v d ps):∃a,v.cells.toList=f a/\ok w a:=by
 obtain⟨n,hn⟩:=h;exact hd hn
end
section
open Go.RowKit
section
variable {P:Program} {w0 w:World} {F:af} (t t2 ty e:TypeId) {size bytes:Nat}
theorem run_append_room (T:yt P t e size bytes) (g off n cap:Nat) (xs:List Value) (h:Sat w0 w (Gs e size (.slice (some ⟨g,off,none⟩) n cap) n xs*F)) (SL:0<cap) (m:Nat) (x:Value) (news:List Value) (src:Src P w size m x news) (h1:∀u∈news,u.oneCell'=true) (J7:n+m<=cap):
 ∃w',(Builtin.append_ #[t,t] ty #[.slice (some ⟨g,off,none⟩) n cap,x]).run P w= .ok (.slice (some ⟨g,off,none⟩) (n+m) cap) w'/\Sat w0 w' (Gs e size (.slice (some ⟨g,off,none⟩) (n+m) cap) (n+m) (xs++news)*F):=by
 obtain⟨i,z,hi,hz,Ka,uX,Kg⟩:=T.info
 have ht:=T.ht
 subst Ka
 obtain⟨hl,hc⟩:=h.jN
 have hlen:(xs++news).length=(n+m)*i.size:=by rw[pU,hl,src.length,uat]
 have RF:=src.len
 rcases hc with ⟨A,e1,rfl,hF⟩|⟨g',Pw,Oe,cur,fr,e1,Zd,hm,zm,Rx,OA,hs⟩
 ·cases e1;omega
 ·cases e1
  have hle:(n+m)*i.size<=cap*i.size:=VB _ J7
  have qB:off+n*i.size+news.length<=cur.size:=by rw[src.length];rw[uat]at hle;omega
  have jf:=ig (P:=P) g (off+n*i.size) e fr news 0 cur w hs.at_ (by omega) h1 (λk Cg vS=>OA k (by omega) (by rw[src.length]at vS;rw[uat]at hle;omega))
  simp only[uay]at jf
  refine⟨w.setRow g (cur.toList.take (off+n*i.size)++news++cur.toList.drop (off+n*i.size+news.length)).toArray,?_,?_⟩
  ·have hf:=src.cells w rfl
   unfold Builtin.append_
   simp[run_underlying ht,sizeOf,typeInfo,hi,RF,J7,hf,add_lit,jf]
  ·refine Sat.yc e i.size (n+m) g off cap (cur.toList.take (off+n*i.size)++news++cur.toList.drop (off+n*i.size+news.length)).toArray fr _ ?_ hlen J7 hm ?_ ?_ OA
   ·exact Sat.put hs rfl rfl rfl (setRow_heap w g cur _ e fr hs.at_) λk _ hk=>setRow_other w g k _ hk
   ·simp only[ZX,pU,Aw,uK,uak]
    omega
   ·exact yN Rx (by simpa using qB) hl (by rw[src.length,uat])
theorem zdn (T:yt P t e size bytes) {z:Value} {zs:List Value} (hz0:Zero P e z zs) (h1:∀c∈zs,c.oneCell'=true) (g off n cap:Nat) (xs:List Value) (h:Sat w0 w (Gs e size (.slice (some ⟨g,off,none⟩) n cap) n xs*F)) (J7:n+1<=cap):
 ∃w',(Builtin.clear_ #[t] ty #[sliced (some ⟨g,off,none⟩) n (n+1) cap size]).run P w= .ok (.tuple #[]) w'/\Sat w0 w' (Gs e size (.slice (some ⟨g,off,none⟩) n cap) n xs*F):=by
 obtain⟨i,z',hi,hz,Ka,uX,Kg⟩:=T.info
 have ht:=T.ht
 have hzz:z'=z:=by
  have:=hz0.eq;rw[hi,EL,hz]at this;exact PL (PL this)
 subst hzz
 have hzc:z'.cells=zs.toArray:=by rw[gX,hz0.cells]
 have O8:zs.length=size:=by rw[<-Kg,hzc];simp
 obtain⟨hl,hc⟩:=h.jN
 rcases hc with ⟨A,e1,rfl,hF⟩|⟨g',Pw,Oe,cur,fr,e1,Zd,hm,zm,Rx,OA,hs⟩
 ·cases e1;omega
 ·cases e1
  have hle:(n+1)*size<=cap*size:=VB _ J7
  rw[uat,Nat.one_mul]at hle
  have jf:=ig (P:=P) g (off+n*size) e fr zs 0 cur w hs.at_ (by omega) h1 (λk Cg vS=>OA k (by omega) (by omega))
  simp only[uay]at jf
  refine⟨w.setRow g (cur.toList.take (off+n*size)++zs++cur.toList.drop (off+n*size+zs.length)).toArray,?_,?_⟩
  ·have Yr:(Builtin.zeroCells z'.cells 1).toList=zs:=by
    rw[hzc];unfold Builtin.zeroCells;apply List.ext_getElem
    ·simp
    ·intro j h1 h2;have hj:j<zs.length:=h2;simp[YJ hj,hj]
   unfold Builtin.clear_ sliced
   rw[eQ (by omega)]
   simp[run_underlying ht,zeroValue,typeInfo,hi,hz,add_lit,Yr,jf]
  ·refine Sat.yc e size n g off cap (cur.toList.take (off+n*size)++zs++cur.toList.drop (off+n*size+zs.length)).toArray fr _ ?_ hl Zd hm ?_ ?_ OA
   ·exact Sat.put hs rfl rfl rfl (setRow_heap w g cur _ e fr hs.at_) λk _ hk=>setRow_other w g k _ hk
   ·simp only[ZX,pU,Aw,uK,uak]
    omega
   ·rw[<-Rx]
    simp only[EK]
    rw[uaj (by simp;omega),uaF (by simp;omega),ub4,ubd]
    congr 1
    omega
end
section
variable {P:Program} {n:fT} {w0:World} {E:Env} {D:List Deferred} {H F:af} {α:Type} {e:TypeId} {size bytes:Nat} {f:α->List Value} {l:List α}
variable {d:Option Tmp} {t ty:TypeId} {pos:String} {after:Array Edge} {gu:Option (Nat×Bool)} {x y z:Operand}
theorem zeK {e2:TypeId} {q1 q2 q3:IntKind} {i1 i2 i3:Int} {A:Option Addr} {m c:Nat} (hx:E.ev x=some (.slice A m c)) {y1 y2 y3:Operand} (UR:E.ev y1=some (.int q1 i1)) (Cn:E.ev y2=some (.int q2 i2)) (hy3:E.ev y3=some (.int q3 i3)) (ht:eN P t (.slice e2)) (fP:GL P e2 size) (hb:0<=i1/\i1<=i2/\i2<=i3/\i3<=c):
 OpQ P n w0 ⟨d,.slice t x (some y1) (some y2) (some y3),ty,pos,after,gu⟩ E H (sliced A i1.toNat i2.toNat i3.toNat size):=λa w s hs=>by
 obtain⟨i0,uY,zq⟩:=AU.1 fP.eq
 have FW:P.elem t=e2:=by simp[Program.elem,ht.eq]
 have xq:P.underlying t=some (.slice (P.elem t)):=by rw[ht.eq,FW]
 have hr:=run_slice_lhm (P:=P) (w:=w) t A m c xq q1 q2 q3 i1 i2 i3 hb.1 hb.2.1 hb.2.2.1 hb.2.2.2
 have hz:(sizeOf e2).run P w= .ok size w:=by simp[sizeOf,typeInfo,uY,zq]
 rw[FW,hz]at hr
 simp only[execOp,s.ev hx,s.ev UR,s.ev Cn,s.ev hy3,EL,run_sliceAt_slice w t _ _ _ _ xq,Sem.run_bind,hr,Result.andThen_ok,Sem.run_pure]
theorem zeT {e2:TypeId} {q1 q2:IntKind} {i1 i2:Int} {A:Option Addr} {m c:Nat} (hx:E.ev x=some (.slice A m c)) {y1 y2:Operand} (UR:E.ev y1=some (.int q1 i1)) (Cn:E.ev y2=some (.int q2 i2)) (ht:eN P t (.slice e2)) (fP:GL P e2 size) (hb:0<=i1/\i1<=i2/\i2<=c):
 OpQ P n w0 ⟨d,.slice t x (some y1) (some y2) none,ty,pos,after,gu⟩ E H (sliced A i1.toNat i2.toNat c size):=λa w s hs=>by
 obtain⟨i0,uY,zq⟩:=AU.1 fP.eq
 have FW:P.elem t=e2:=by simp[Program.elem,ht.eq]
 have xq:P.underlying t=some (.slice (P.elem t)):=by rw[ht.eq,FW]
 have hr:=run_slice_lh (P:=P) (w:=w) t A m c xq q1 q2 i1 i2 hb.1 hb.2.1 hb.2.2
 have hz:(sizeOf e2).run P w= .ok size w:=by simp[sizeOf,typeInfo,uY,zq]
 rw[FW,hz]at hr
 simp only[execOp,s.ev hx,s.ev UR,s.ev Cn,EL,uag,run_sliceAt_slice w t _ _ _ _ xq,Sem.run_bind,hr,Result.andThen_ok,Sem.run_pure]
theorem zeH {g off cap:Nat} (k:Nat) (hk:k<l.length) (hx:E.ev x=some (di (.slice (some ⟨g,off,none⟩) l.length cap) k)) (hy:E.ev y=some (cq size (.slice (some ⟨g,off,none⟩) l.length cap) (k+1))) (hl:dD H (.slice (some ⟨g,off,none⟩) l.length cap) α e size f l F) (hT:lj P t e size bytes) (hf:cY f size) (h1:∀z,∀c∈f z,c.oneCell'=true) (hp:NeZero size) (hc:l.length<=cap):
 cn P n w0 ⟨d,.call ⟨.builtin .append,#[x,y],#[t,t]⟩,ty,pos,after,gu⟩ E H (λ_:Unit=> .slice (some ⟨g,off,none⟩) (l.length - 1) cap) (λ_=>rows e size f (.slice (some ⟨g,off,none⟩) (l.length - 1) cap) (l.eraseIdx k)*F):=by
 refine cn.mk' (pre:=rows e size f (.slice (some ⟨g,off,none⟩) l.length cap) l) (post:=λ_=>rows e size f (.slice (some ⟨g,off,none⟩) (l.length - 1) cap) (l.eraseIdx k)) (λG a w K Q s hs hK=> ?_) hl.eq
 have O3:Src P w size (l.drop (k+1)).length (cq size (.slice (some ⟨g,off,none⟩) l.length cap) (k+1)) ((l.drop (k+1)).flatMap f):=uN ((zN (w0:=w0) (H:=rows e size f (.slice (some ⟨g,off,none⟩) l.length cap) l*G) (v:= .slice (some ⟨g,off,none⟩) l.length cap) (f:=f) (l:=l) (k+1)).at_ w hs) hf.eq
 have fP:Sat w0 w (rows e size f (di (.slice (some ⟨g,off,none⟩) l.length cap) k) (l.take k)*G):=(aq.Nc (H:=rows e size f (.slice (some ⟨g,off,none⟩) l.length cap) l*G) (F:=G) k).sat hs
 have hhd:di (.slice (some ⟨g,off,none⟩) l.length cap) k= .slice (some ⟨g,off,none⟩) (l.take k).length cap:=by unfold di;simp
 rw[hhd]at fP hx
 unfold rows at fP
 have O5:(l.take k).length=k:=by simp;omega
 have El:(l.drop (k+1)).length=l.length - 1 - k:=by simp;omega
 obtain⟨w',hr,eI⟩:=run_append_room (P:=P) t ty e hT.out g off (l.take k).length cap _ fP (by omega) _ _ _ O3 (λc hc=>by obtain⟨z,_,hz⟩:=ucc.1 hc;exact h1 z c hz) (by rw[O5,El];omega)
 have hlen:(l.take k).length+(l.drop (k+1)).length=l.length - 1:=by omega
 rw[hlen]at hr eI
 have he:l.eraseIdx k=l.take k++l.drop (k+1):=uaw _ _
 unfold Oper.wp execOp
 simp only[resolve,invoke,builtin,Sem.run_bind,Sem.run_pure,Result.andThen_ok,ubh,Hh,Xp,s.ev hx,s.ev hy,hr]
 refine hK () w' ?_
 unfold rows
 rw[he,uaW,pU,hlen]
 exact eI
theorem zeI {g off cap m lo hi:Nat} {z:Value} {zs:List Value} (hx:E.ev x=some (sliced (some ⟨g,off,none⟩) lo hi cap size)) (hm:l.length=m) (SU:lo=m) (hhi:hi=m+1) (hl:dD H (.slice (some ⟨g,off,none⟩) m cap) α e size f l F) (hT:lj P t e size bytes) (hz:Zero P e z zs) (h1:(zs.all λc=>c.oneCell')=true) (hc:m+1<=cap):
 cn P n w0 ⟨none,.call ⟨.builtin .clear,#[x],#[t]⟩,ty,pos,after,gu⟩ E H (λ_:Unit=>undef) (λ_=>rows e size f (.slice (some ⟨g,off,none⟩) m cap) l*F):=by
 subst SU
 subst hhi
 subst hm
 refine cn.mk' (pre:=rows e size f (.slice (some ⟨g,off,none⟩) l.length cap) l) (post:=λ_=>rows e size f (.slice (some ⟨g,off,none⟩) l.length cap) l) (λG a w K Q s hs hK=> ?_) hl.eq
 unfold rows at hs
 obtain⟨w',hr,eI⟩:=zdn (P:=P) t ty e hT.out hz (λc hc=>by simpa using uaG.1 h1 c hc) g off l.length cap _ hs hc
 have:=hK () w' eI
 unfold Oper.wp execOp
 simp only[resolve,invoke,builtin,Sem.run_bind,Sem.run_pure,Result.andThen_ok,ubh,Hh,Xp,s.ev hx,hr]
 exact this
end
end
section
open Go.RowKit
def flC (f:Fl):List Value:=[.int .i64 (f.src:Int),.int .i64 (f.dst:Int),aZ f.bytes]
instance:cY flC 3:=⟨λ_=>rfl⟩
theorem zaH:∀z,∀c∈flC z,c.oneCell'=true:=by intro z c hc;simp[flC]at hc;rcases hc with rfl|rfl|rfl<;>rfl
theorem zei {P n w0 E D H F Q c α e size f} {l:List α} (v) (hl:dD H v α e size f l F) (hk:0<l.length) (h:∀g off cap,v= .slice (some ⟨g,off,none⟩) l.length cap->l.length<=cap->cap<=maxLen->WS P n w0 c Q ⟨E,D,H⟩):WS P n w0 c Q ⟨E,D,H⟩:=λa w g=>by
 have hs:=g.sat.cast hl.eq;unfold rows at hs;obtain⟨_,⟨A,_,h0,_⟩|⟨g',off,cap,cur,fr,hv,h1,h2,_⟩⟩:=hs.jN
 ·omega
 ·exact h g' off cap hv h1 h2 a w g
attribute [local irreducible] WS LS OpQ y6 cn cv Spec bA aK di cq
variable (w0:World)
theorem zb6 (v) (l:List Fl) (k) (hk:k<l.length) (hl:l.length<=1000):Spec ucC w0 84 [v,.int .i64 (k:Int),.int .i64 ((k:Int)+1)] (rows 114 3 flC v l) (λv':Value=>v') (λv'=>rows 114 3 flC v' (l.eraseIdx k)):=by
 refine eZ Tryz.func84 Tryz.ntmps84 λG=> ?_;refine zei v iI (by omega) λg off cap hv hc hm=> ?_;subst hv;simp only[aN];have h1:(k:Int)≠(k:Int)+1:=by omega
 have mi:¬(k:Int)=(k:Int)+1:=by omega
 have Cg:k<=l.length:=by omega
 have vS:k+1<=l.length:=by omega
 repeat' (first|refine ae (id:=5) (.range 8) 6 [2,5] ?_|intro K hK|intro hc|refine xyZ ?_|refine aF ?_ ?_|((first|refine' LQ ?zh rfl ?_|refine' bP rfl rfl rfl ?zh ?_|refine' bk rfl rfl ?zh ?_);case zh=>intro F';first|exact dv rfl rfl iI iI iI iI (by first|assumption|omega|(simp[al]<;>omega))|exact cW rfl rfl iI iI iI iI (by first|assumption|omega|(simp[al]<;>omega)))|((first|refine' LQ ?zh rfl ?_|refine' bk rfl rfl ?zh ?_);(case zh=>intro F';exact zeK rfl rfl rfl rfl iI iI (by omega)))|((first|refine' LQ ?zh rfl ?_);(case zh=>intro F';exact zeT rfl rfl rfl iI iI (by omega)))|(refine aD (zeH k hk rfl rfl iI iI iI zaH iI hc) rfl rfl rfl ?_;intro u1)|(refine bL (zeI (m:=l.length - 1) rfl (by rw[NV,jF hk]) (by simp) (by simp;omega) iI iI iI rfl (by omega)) ?_;intro g))
 exact aC (.inl rfl) rfl rfl ⟨_,rfl,ah⟩
end
section
open Go.RowKit
def jo (g:Nat):Option Nd->Value
 |some _=>ptr g 0
 |none=> .pointer none
def zan (s:Zr) (gn:Nat) (vj:Value):List Value:=[u32 s.addr,jo gn s.node,vj,.int .i64 s.Zw,.bool s.ZL]
def zaB (gn:Nat):Option Nd->af
 |some n=>jg gn n
 |none=>emp
def y7 (b gn:Nat) (vj:Value) (s:Zr):af:=aK b 118 (zan s gn vj)*(rows 5 1 bU vj s.ay*zaB gn s.node)
def zaT (b:Nat) (s:Zr):af:=hex λx:Nat×Value=>y7 b x.1 x.2 s
def zav (bs:List Nat) (Zs:List Zr):af:=pure' (bs.length=Zs.length)*qY zaT bs Zs
abbrev SV:=Option Addr×Nat×Nat
abbrev ES:=Ev×SV×SV×SV
def evC (x:ES):List Value:=[.int .i64 x.1.node,.int .i64 x.1.err,aZ x.1.out.ay,.bool x.1.out.replace,cT x.2.1,cT x.2.2.1,cT x.2.2.2]
instance:cY evC 7:=⟨λ_=>rfl⟩
theorem zbt:∀z,∀c∈evC z,c.oneCell'=true:=by intro z c hc;simp[evC]at hc;rcases hc with rfl|rfl|rfl|rfl|rfl|rfl|rfl<;>rfl
def svV (x:SV×SV×SV):Value×Value×Value:=(cT x.1,cT x.2.1,cT x.2.2)
def evO (x:ES):af:=r5 x.1.out (svV x.2)
def e9:List ES->af
 |[]=>emp
 |x::l=>evO x*e9 l
theorem zaU (l k):e9 (l++k)=e9 l*e9 k:=by
 induction l with
 |nil=>rw[zF,e9,aB]
 |cons x l ih=>rw[YW,e9,e9,ih,ad]
structure MH where
 vs:Value
 bs:List Nat
 r:Nat
 va:Value
 ve:Value
def b6 (m:Ms) (h:MH):List Value:=[h.vs,.map (some h.r),.bool (m.Zu 0),.bool (m.Zu 1),.bool (m.Zu 2),.bool (m.Zu 3),.bool (m.Zu 4),.bool (m.Zu 5),.bool (m.Zu 6),.bool (m.Zu 7),.bool (m.Zu 8),.bool (m.Zu 9),.bool (m.Zu 10),.bool (m.Zu 11),.bool (m.Zu 12),.bool (m.Zu 13),.bool (m.Zu 14),.bool (m.Zu 15),.bool (m.Zu 16),.bool (m.Zu 17),.bool (m.Zu 18),.bool (m.Zu 19),.bool (m.Zu 20),.bool (m.Zu 21),.bool (m.Zu 22),.bool (m.Zu 23),.bool (m.Zu 24),.bool (m.Zu 25),.bool (m.Zu 26),.bool (m.Zu 27),.bool (m.Zu 28),.bool (m.Zu 29),.bool (m.Zu 30),.bool (m.Zu 31),.bool (m.Zu 32),.bool (m.Zu 33),.bool (m.Zu 34),.bool (m.Zu 35),h.va,u64 m.now,h.ve]
def zah:Nat->List Zr->List (UInt32×Int)
 |_,[]=>[]
 |k,s::r=>(s.addr,(k:Int))::zah (k+1) r
theorem zbD (a:UInt32):∀(Zs:List Zr) (k:Nat),bX (zah k Zs) a=(Zv Zs a).map λj=>((k+j:Nat):Int)
 |[],k=>rfl
 |s::r,k=>by
  simp only[zah,gv,Zv];split
  ·simp
  ·rw[zbD a r (k+1)];cases Zv r a with
   |none=>rfl
   |some j=>
    show some (((k+1+j:Nat)):Int)=some ((k+(j+1):Nat):Int);congr 1;omega
def zaA (g:Nat) (m:Ms) (h:MH) (el:List ES):af:=
 aK g 108 (b6 m h)*(rows 115 1 Z4 h.vs h.bs*(mp u32 i64 h.r (zah 0 m.Zs)*(zav h.bs m.Zs*(rows 114 3 flC h.va m.Zx*rows 68 7 evC h.ve el))))
def y8 (g:Nat) (k:MH) (m:Ms) (el:List ES):af:=hex λx:Value×Value=>pure' (el.map (·.1)=m.mU)*zaA g m ⟨k.vs,k.bs,k.r,x.1,x.2⟩ el
def zaj (g:Nat) (k:MH) (m:Ms):af:=hex λx:Value×Value=>aK g 108 (b6 m ⟨k.vs,k.bs,k.r,x.1,x.2⟩)*(rows 115 1 Z4 k.vs k.bs*(mp u32 i64 k.r (zah 0 m.Zs)*(zav k.bs m.Zs*rows 114 3 flC x.1 m.Zx)))
section
variable {P:Program} {n:fT} {w0:World} {E:Env} {D:List Deferred} {F:af} {ops:Array Oper} {l':List Oper} {c:Code} {Q:Exit->St->Prop} {g:Nat} {k:MH} {m:Ms} {el:List ES}
theorem za5 (h:∀va ve,el.map (·.1)=m.mU->WS P n w0 c Q ⟨E,D,zaA g m ⟨k.vs,k.bs,k.r,va,ve⟩ el*F⟩):WS P n w0 c Q ⟨E,D,y8 g k m el*F⟩:=by
 unfold y8;refine iU λx=> ?_;rw[ad];exact jR λhe=>h x.1 x.2 he
theorem aq.msh {H F} (va ve) (he:el.map (·.1)=m.mU) (e:aq H (zaA g m ⟨k.vs,k.bs,k.r,va,ve⟩ el*F)):aq H (y8 g k m el*F):=by
 refine aq.mX (p:=λx:Value×Value=>pure' (el.map (·.1)=m.mU)*zaA g m ⟨k.vs,k.bs,k.r,x.1,x.2⟩ el) (va,ve) ?_;rw[qQ he,aB];exact e
theorem zbe {bs:List Nat} {Zs:List Zr} (h:bs.length=Zs.length):zav bs Zs=qY zaT bs Zs:=by unfold zav;rw[qQ h,aB]
theorem zau {bs:List Nat} {Zs:List Zr} {i b s} (hl:bs.length=Zs.length) (hb:bs[i]? =some b) (hs:Zs[i]? =some s):∃R,zav bs Zs=zaT b s*R/\∀f:Zr->Zr,zav bs (Zs.modify i f)=zaT b (f s)*R:=by
 obtain⟨R,e1,e2,_⟩:=lE zaT hb hs;exact paE
theorem zaS {va ve} (h:k.bs.length=m.Zs.length->WS P n w0 c Q ⟨E,D,zaA g m ⟨k.vs,k.bs,k.r,va,ve⟩ el*F⟩):WS P n w0 c Q ⟨E,D,zaA g m ⟨k.vs,k.bs,k.r,va,ve⟩ el*F⟩:=λa w gd=>by
 have e:zaA g m ⟨k.vs,k.bs,k.r,va,ve⟩ el*F=pure' (k.bs.length=m.Zs.length)*(aK g 108 (b6 m ⟨k.vs,k.bs,k.r,va,ve⟩)*(rows 115 1 Z4 k.vs k.bs*(mp u32 i64 k.r (zah 0 m.Zs)*(qY zaT k.bs m.Zs*(rows 114 3 flC va m.Zx*(rows 68 7 evC ve el*F)))))):=by
  unfold zaA zav;ac_rfl
 obtain⟨h1,_⟩:=(gd.sat.cast e).pure;exact h h1 a w gd
end
def zaC (g:Nat) (m:Ms) (k:MH) (va ve:Value) (el:List ES) (b gn:Nat) (vj:Value) (s:Zr) (R:af):af:=
 aK g 108 (b6 m ⟨k.vs,k.bs,k.r,va,ve⟩)*(rows 115 1 Z4 k.vs k.bs*(mp u32 i64 k.r (zah 0 m.Zs)*(y7 b gn vj s*(R*(rows 114 3 flC va m.Zx*rows 68 7 evC ve el)))))
section
variable {P:Program} {n:fT} {w0:World} {E:Env} {D:List Deferred} {F:af} {c:Code} {Q:Exit->St->Prop} {g:Nat} {k:MH} {m:Ms} {el:List ES}
theorem zep {va ve b s R} (e:zav k.bs m.Zs=zaT b s*R) (Z):zaA g m ⟨k.vs,k.bs,k.r,va,ve⟩ el*Z=hex (λx:Nat×Value=>y7 b x.1 x.2 s)*(aK g 108 (b6 m ⟨k.vs,k.bs,k.r,va,ve⟩)*(rows 115 1 Z4 k.vs k.bs*(mp u32 i64 k.r (zah 0 m.Zs)*(R*(rows 114 3 flC va m.Zx*(rows 68 7 evC ve el*Z)))))):=by
 unfold zaA;simp only;rw[e];unfold zaT;ac_rfl
theorem zd2 (va ve b gn vj s R Z):zaC g m k va ve el b gn vj s R*Z=y7 b gn vj s*(aK g 108 (b6 m ⟨k.vs,k.bs,k.r,va,ve⟩)*(rows 115 1 Z4 k.vs k.bs*(mp u32 i64 k.r (zah 0 m.Zs)*(R*(rows 114 3 flC va m.Zx*(rows 68 7 evC ve el*Z)))))):=by
 unfold zaC;ac_rfl
theorem za0 {va ve b s R} (e:zav k.bs m.Zs=zaT b s*R) (h:∀gn vj,WS P n w0 c Q ⟨E,D,zaC g m k va ve el b gn vj s R*F⟩):WS P n w0 c Q ⟨E,D,zaA g m ⟨k.vs,k.bs,k.r,va,ve⟩ el*F⟩:=by
 rw[zep e];refine iU λx=> ?_;have:=h x.1 x.2;rw[zd2]at this;exact this
theorem aq.sta {H va ve b s R} (gn vj) (e:zav k.bs m.Zs=zaT b s*R) (h:aq H (zaC g m k va ve el b gn vj s R*F)):aq H (zaA g m ⟨k.vs,k.bs,k.r,va,ve⟩ el*F):=by
 rw[zep e];rw[zd2]at h;exact aq.mX (p:=λx:Nat×Value=>y7 b x.1 x.2 s) (gn,vj) h
end
end
section
open Go.RowKit
section
variable {P:Program} {n:fT} {w0:World} {E:Env} {D:List Deferred} {H F:af} {Q:Exit->St->Prop} {d:Option Tmp} {ty:TypeId} {pos:String} {after:Array Edge} {gu:Option (Nat×Bool)} {x y:Operand}
instance zeL {t e:TypeId} {A:Option Addr} {m c:Nat} [h:eN P t (.slice e)]:dL P .eql t (.slice A m c) (.slice none 0 0) (.bool A.isNone):=⟨λw=>by
 simp only[binOp];simp[run_equal_slice_nil w t e A m c h.eq],λw _ _=>by rfl⟩
theorem zcZ {α e size f} {l:List α} {c} (v) (hl:dD H v α e size f l F) (h:∀A cap,v= .slice A l.length cap->(A=none->l=[])->WS P n w0 c Q ⟨E,D,H⟩):WS P n w0 c Q ⟨E,D,H⟩:=λa w g=>by
 have hs:=g.sat.cast hl.eq;unfold rows at hs;obtain⟨_,⟨A,hv,h0,_⟩|⟨g',off,cap,cur,fr,hv,h1,h2,_⟩⟩:=hs.jN
 ·have:l=[]:=HD h0;exact h A 0 (by rw[hv,h0]) (λ_=>this) a w g
 ·exact h _ cap hv (λe=>by cases e) a w g
theorem za9 {t et:TypeId} {len size g off:Nat} {q:IntKind} {i:Int} {k:Nat} (hx:E.ev x=some (ptr g off)) (hy:E.ev y=some (.int q i)) (hi:fB i k) (ht:eN P t (.array len et)) (hs:GL P et size) (hk:k<len):OpQ P n w0 ⟨d,.indexAddr t x y,ty,pos,after,gu⟩ E H (ptr g (off+k*size)):=λa w s eI=>by
 obtain rfl:=hi.eq;obtain⟨i0,uY,zq⟩:=AU.1 hs.eq;have FW:P.elem t=et:=by simp[Program.elem,ht.eq]
 have Iy:P.arrayLen t=len:=by simp[Program.arrayLen,ht.eq]
 have xq:P.underlying t=some (.array (P.arrayLen t) (P.elem t)):=by rw[ht.eq,FW,Iy]
 have hz:(sizeOf et).run P w= .ok size w:=by simp[sizeOf,typeInfo,uY,zq]
 have hr:=run_indexAt_array (P:=P) (w:=w) t ⟨g,off,none⟩ q (k:Int) xq;rw[jF (by rw[Iy];omega),FW,hz]at hr;have Hn:(Instr.indexAt t (ptr g off) (.int q (k:Int))).run P w= .ok (ptr g (off+k*size)) w:=by
  rw[show ptr g off= .pointer (some ⟨g,off,none⟩)from rfl,hr];simp[add_lit]
 simp only[execOp,s.ev hx,s.ev hy,Sem.run_bind,Hn,Result.andThen_ok,Sem.run_pure]
end
theorem zc7 (m:Ms) (h) {i j} (hi:i<6) (hj:j<6):AH (b6 m h) (0+2+i*6+j*1)=some (.bool (m.ZZ i j)):=by
 exact paY
attribute [local irreducible] WS LS OpQ y6 cn cv Spec bA aK
variable (w0:World)
theorem zc2 (v) (l:List Fl) (hl:l.length<=1000):Spec ucC w0 42 [v] (rows 114 3 flC v l) (λv':Value=>v') (λv'=>rows 114 3 flC v' l*rows 114 3 flC v l):=by
 refine eZ Tryz.func42 Tryz.ntmps42 λG=> ?_;refine zcZ v iI λA cap hv hn=> ?_;subst hv;simp only[aN];cases A with
 |none=>
  have:=hn rfl;subst this;repeat' (first|intro hc|refine xyZ ?_|refine aF ?_ ?_|refine zw1 ?_)
  exact aC (.inl rfl) rfl rfl ⟨_,rfl,ah⟩
 |some a=>
  repeat' (first|intro hc|refine xyZ ?_|refine aF ?_ ?_|refine zw1 ?_|(refine ai (fq flC iI iI) rfl ?_;intro v2)|(refine ai (aR rfl rfl iI iI rfl iI iI zaH (by first|omega|(simp[al]<;>omega)) rfl) rfl ?_;intro v3))
  exact aC (.inl rfl) rfl rfl ⟨_,rfl,ah⟩
theorem zc1 (v) (l:cP) (hl:l.length<=10000):Spec ucC w0 107 [v] (rows 5 1 bU v l) (λv':Value=>v') (λv'=>rows 5 1 bU v' l*rows 5 1 bU v l):=by
 refine eZ Tryz.func107 Tryz.ntmps107 λG=> ?_;refine zcZ v iI λA cap hv hn=> ?_;subst hv;simp only[aN];cases A with
 |none=>
  have:=hn rfl;subst this;repeat' (first|intro hc|refine xyZ ?_|refine aF ?_ ?_|refine zw1 ?_)
  exact aC (.inl rfl) rfl rfl ⟨_,rfl,ah⟩
 |some a=>
  repeat' (first|intro hc|refine xyZ ?_|refine aF ?_ ?_|refine zw1 ?_|(refine ai (fq bU iI iI) rfl ?_;intro v2)|(refine ai (aR rfl rfl iI iI rfl iI iI mS (by first|omega|(simp[al]<;>omega)) rfl) rfl ?_;intro v3))
  exact aC (.inl rfl) rfl rfl ⟨_,rfl,ah⟩
theorem zct (g) (m:Ms) (h:MH) (f) (hl:m.Zx.length<=48):Spec ucC w0 86 [ptr g 0,.agg (flC f).toArray] (aK g 108 (b6 m h)*rows 114 3 flC h.va m.Zx) (λ_:Value=> .tuple #[]) (λva=>aK g 108 (b6 (m.ZM f) {h with va:=va})*rows 114 3 flC va (m.ZM f).Zx):=by
 refine eZ Tryz.func86 Tryz.ntmps86 λG=> ?_;have yz:(m.Zx++[f]).length=m.Zx.length+1:=by simp
 have p1:=λv=>zb6 w0 v (m.Zx++[f]) 0 (by omega) (by omega);have za1:(m.ZM f).Zx=if 48<(m.Zx++[f]).length then(m.Zx++[f]).eraseIdx 0 else m.Zx++[f]:=rfl
 simp only[b6,flC,aN,Ms.ZM];by_cases hm:48<(m.Zx++[f]).length
 ·rw[jF hm]at za1 ⊢;have xj:(48:Int)<((m.Zx++[f]).length:Int):=by omega
  repeat' (first|refine ae (id:=1) (.range 11) 7 [4,5] ?_|refine zaN (id:=1) 0 3 (.range 11) 10 [4] ?_|intro hc|refine yZ ?_|refine aF ?_ ?_|(refine aD (au flC [f] iI iI iI rfl rfl rfl rfl rfl iI rfl rfl rfl) rfl rfl rfl ?_;intro vx)|(refine aD (aR rfl rfl iI iI rfl iI iI zaH (by first|omega|(simp[al]<;>omega)) rfl) rfl rfl rfl ?_;intro va)|(refine ai (aa iI rfl (p1 _) iI) rfl ?_;intro v5))
  exact aj (.inr rfl) rfl ⟨v5,rfl,ah⟩
 ·rw[eQ hm]at za1 ⊢;have xj:¬(48:Int)<((m.Zx++[f]).length:Int):=by omega
  repeat' (first|refine ae (id:=1) (.range 11) 7 [4,5] ?_|refine zaN (id:=1) 0 3 (.range 11) 10 [4] ?_|intro hc|refine yZ ?_|refine aF ?_ ?_|(refine aD (au flC [f] iI iI iI rfl rfl rfl rfl rfl iI rfl rfl rfl) rfl rfl rfl ?_;intro vx)|(refine aD (aR rfl rfl iI iI rfl iI iI zaH (by first|omega|(simp[al]<;>omega)) rfl) rfl rfl rfl ?_;intro va))
  exact aj (.inr rfl) rfl ⟨va,rfl,ah⟩
def k8 (i e:Int):ES:=(⟨i,e,dS.zero⟩,(none,0,0),(none,0,0),(none,0,0))
theorem zbI (g m) (h:MH) (el:List ES) (i e) (hl:el.length<=900000):Spec ucC w0 88 [ptr g 0,.int .i64 i,.int .i64 e] (aK g 108 (b6 m h)*rows 68 7 evC h.ve el) (λ_:Value=> .tuple #[]) (λve=>aK g 108 (b6 m {h with ve:=ve})*rows 68 7 evC ve (el++[k8 i e])):=by
 refine eZ Tryz.func88 Tryz.ntmps88 λG=> ?_;simp only[b6,aN];exact paF
theorem zch (b gn vj) (s:Zr):Spec ucC w0 90 [ptr b 0] (y7 b gn vj s) (λ_:Unit=> .tuple #[]) (λ_=>y7 b gn vj s.stop):=by
 refine eZ Tryz.func90 Tryz.ntmps90 λG=> ?_;simp only[y7,zan,Zr.stop,jo,zaB,aN];repeat' (first|refine ax ?_|refine bQ λg=> ?_)
 exact aj (.inr rfl) rfl ⟨(),rfl,ah⟩
theorem zeg (b gn vj) (s:Zr) (o:dS) (v) (hj:s.ay.length+o.ay.length<=900000) (ht:0<=s.Zw/\s.Zw<=9223372036854775807):Spec ucC w0 141 [ptr b 0,fp o v] (y7 b gn vj s) (λ_:Value=> .bool (s.Z2 o)) (λvj'=>y7 b gn vj' (if s.Z2 o then s.ZH o else s)):=by
 refine eZ Tryz.func141 Tryz.ntmps141 λG=> ?_;have p1:=λvj' s'=>zch w0 b gn vj' s';obtain⟨addr,node,ay,Zw,ZL⟩:=s;obtain⟨J,R,fr,cm,dr⟩:=o;simp only at hj ht;simp only[fp,aN];cases ZL with
 |false=>
  simp only[y7,zan,Zr.Z2,uan,AT,VC];repeat' (first|intro hc|refine yZ ?_|refine aF ?_ ?_)
  exact aC (.inl rfl) rfl rfl ⟨vj,rfl,ah⟩
 |true=>
  cases J with
  |nil=>
   simp only[y7,zan,Zr.Z2,List.isEmpty_nil,ubO,uaR,AT,VC];repeat' (first|intro hc|refine yZ ?_|refine aF ?_ ?_)
   exact aC (.inl rfl) rfl rfl ⟨vj,rfl,ah⟩
  |cons j0 J'=>
   obtain⟨J,hJ⟩:∃J,J=j0::J':=⟨_,rfl⟩
   have mi:¬J=[]:=by rw[hJ];simp
   have ht:Zr.Z2 ⟨addr,node,ay,Zw,true⟩ ⟨j0::J',R,fr,cm,dr⟩=true:=rfl;rw[ht];simp only[YZ];rw[<-hJ]at hj ⊢;have hJl:0<J.length:=by rw[hJ];simp
   obtain⟨kk,hkk⟩:∃kk,kk=(min Zw (J.length:Int)).toNat:=⟨_,rfl⟩
   haveI:fB (min Zw (J.length:Int)) kk:=⟨by omega⟩
   have tK:kk<=J.length:=by omega
   cases R with
   |true=>
    have p2:=p1 vj ⟨addr,node,ay,Zw,true⟩;simp only[y7,zan,Zr.ZH,Zr.stop,YZ]at p2 ⊢;repeat' (first|intro hc|refine yZ ?_|refine aF ?_ ?_|refine cZ p2 λu2=> ?_)
    exact aC (.inl rfl) rfl rfl ⟨vj,rfl,ah⟩
   |false=>
    have p2:=λvj'=>p1 vj' ⟨addr,node,ay++J.take kk,Zw,true⟩;simp only[y7,zan,Zr.ZH,Zr.stop,Zr.part,AT,VC,<-hkk]at p2 ⊢;repeat' (first|refine ae (id:=4) (.range 20) 16 [4,6,10,12,13,14,15] ?_|refine zaN (id:=4) 0 3 (.range 20) 19 [4,10] ?_|intro hc|refine yZ ?_|refine aF ?_ ?_|((first|refine' LQ ?zh rfl ?_|refine' bP rfl rfl rfl ?zh ?_|refine' bk rfl rfl ?zh ?_);case zh=>intro F';exact zba rfl rfl iI iI (by first|assumption|omega))|refine cZ (p2 va) λu2=> ?_|(refine aD (GD rfl rfl iI rfl iI iI (by first|omega|(simp[al]<;>omega)) rfl) rfl rfl rfl ?_;intro va))
    exact aC (.inl rfl) rfl rfl ⟨va,rfl,ah⟩
theorem r9 (g m) (h:MH) (i b:Nat) (hb:h.bs[i]? =some b) (hl:h.bs.length<=6):Spec ucC w0 43 [ptr g 0,.int .i64 (i:Int)] (aK g 108 (b6 m h)*rows 115 1 Z4 h.vs h.bs) (λ_:Unit=>ptr b 0) (λ_=>aK g 108 (b6 m h)*rows 115 1 Z4 h.vs h.bs):=by
 refine eZ Tryz.func43 Tryz.ntmps43 λG=> ?_;have bW:=(az.1 hb).1;have h1:¬(i:Int)<0:=by omega
 have h2:¬(h.bs.length:Int)<=(i:Int):=by omega
 obtain⟨vs,bs,r,va,ve⟩:=h;simp only at hb hl bW h2;simp only[b6,aN];exact pac
theorem zaD (g m) (h:MH) (i) (hi:i<0\/(h.bs.length:Int)<=i) (hl:h.bs.length<=6):Spec ucC w0 43 [ptr g 0,.int .i64 i] (aK g 108 (b6 m h)*rows 115 1 Z4 h.vs h.bs) (λ_:Unit=> .pointer none) (λ_=>aK g 108 (b6 m h)*rows 115 1 Z4 h.vs h.bs):=by
 refine eZ Tryz.func43 Tryz.ntmps43 λG=> ?_;obtain⟨vs,bs,r,va,ve⟩:=h;simp only at hi hl;simp only[b6,aN];by_cases h1:i<0
 ·exact pac
 ·have h2:(bs.length:Int)<=i:=by omega
  exact pac
end
section
open Go.RowKit
section
variable {P:Program} {n:fT} {w0:World} {E:Env} {D:List Deferred} {H F:af} {c:Code} {Q:Exit->St->Prop}
theorem zdW {o:dS} {v} (hl:Own H (r5 o v) F) (h:∀A1 c1 A2 c2 A3 c3,v=(.slice A1 o.aJ.length c1,.slice A2 o.cj.length c2,.slice A3 o.dropped.length c3)->WS P n w0 c Q ⟨E,D,H⟩):WS P n w0 c Q ⟨E,D,H⟩:=λa w gd=>by
 have h1:=gd.sat.cast hl.eq;unfold r5 at h1;rw[ad,ad]at h1;obtain⟨A1,c1,e1⟩:=gz h1;obtain⟨A2,c2,e2⟩:=gz (h1.cast (aM _ _ _));obtain⟨A3,c3,e3⟩:=gz (h1.cast ((G2 _ (aM _ _ _)).trans (aM _ _ _)));exact h A1 c1 A2 c2 A3 c3 (by rw[<-e1,<-e2,<-e3]) a w gd
end
theorem zcP:∀(l m:List Zr) (k:Nat),l.map (·.addr)=m.map (·.addr)->zah k l=zah k m
 |[],[],_,_=>rfl
 |a::l,b::m,k,h=>by
  simp only[Hh,ubp]at h;simp only[zah,h.1,zcP l m (k+1) h.2]
 |[],_::_,_,h=>by simp at h
 |_::_,[],_,h=>by simp at h
theorem zbl (m:Ms) (i) {f} (hf:∀s,(f s).addr=s.addr):zah 0 (m.Zs.modify i f)=zah 0 m.Zs:=zcP _ _ 0 (Ms.Kept.mod (m:=m) (i:=i) hf).ZO
attribute [local irreducible] WS LS OpQ y6 cn cv Spec bA aK
variable (w0:World)
theorem zcr (gm:Nat) (k:MH) (sub:Ms->dS->Ms) (i b c B:Nat) (hB:B<=899000) (hb:k.bs[i]? =some b) (m:Ms) (el:List ES) (o:dS) (v:Value×Value×Value) (s:Zr) (hs:m.Zs[i]? =some s) (Hq:s.ZC o c) (SY:∀f∈o.aJ,f.2.length<=100000) (zp:o.aJ.length<=100000) (za1:m.Zy) (zb3:m.mU.length+o.aJ.length+2<=B) (h6:m.Zs.length<=6)
 (zdc:∀f∈o.aJ,f.1≠0->∀(m':Ms) (s':Zr) (t:Nd),m.Kept m' i->m'.Zs[i]? =some s'->s'.Sound c->s'.node=some t->m'.ZG (sub (m'.mod i (·.run (t.l7 m'.now f.1))) (t.l7 m'.now f.1).out) i c 1)
 (ow:∀f∈o.aJ,f.1≠0->∀(m':Ms) (el':List ES) (s':Zr) (t:Nd) (v':Value×Value×Value),m.Kept m' i->m'.Zs[i]? =some s'->s'.Sound c->s'.node=some t->m'.Zy->m'.mU.length<=B->Spec ucC w0 85 [ptr gm 0,.int .i64 (i:Int),fp (t.l7 m'.now f.1).out v'] (y8 gm k (m'.mod i (·.run (t.l7 m'.now f.1))) el'*r5 (t.l7 m'.now f.1).out v') (λ_:List ES=> .tuple #[]) (λnew=>y8 gm k (sub (m'.mod i (·.run (t.l7 m'.now f.1))) (t.l7 m'.now f.1).out) (el'++new)*e9 new)):
 Spec ucC w0 85 [ptr gm 0,.int .i64 (i:Int),fp o v] (y8 gm k m el*r5 o v) (λ_:List ES=> .tuple #[]) (λnew=>y8 gm k (Ms.ZA sub i m o) (el++new)*e9 new):=by
 refine eZ Tryz.func85 Tryz.ntmps85 λG=> ?_
 rw[ad (y8 _ _ _ _)]
 refine zdW (o:=o) (v:=v) iI λA1 c1 A2 c2 A3 c3 hv=> ?_
 subst hv
 have hi:=(az.1 hs).1
 have Ng:s.ay.length+o.ay.length<=900:=by
  exact pbk
 have zaM:Ms.ZA sub i m o=if o.none then m else if s.Z2 o then(m.mod i (·.ZH o)).event ⟨i,0,dS.zero⟩else o.aJ.foldl (Ms.ZB sub i) ((m.mod i (·.write o)).event ⟨i,0,o⟩):=by
  unfold Ms.ZA;rw[hs]
 by_cases ho:o.none=true
 ·rw[jF ho]at zaM
  rw[zaM]
  have hos:o.ay=[]/\o.aJ=[]/\o.cj=[]/\o.dropped=[]:=by
   unfold dS.none at ho;simp only[Ps,ubL]at ho;exact⟨ho.1.1.1,ho.1.1.2,ho.1.2,ho.2⟩
  obtain⟨J,Rp,fr,cm,dr⟩:=o
  obtain⟨rfl,rfl,rfl,rfl⟩:=hos
  simp only[fp,aN]
  repeat' (first|intro K hK|intro hc|refine xyZ ?_|refine aF ?_ ?_|refine bT λg=> ?_)
  exact aj (.inl rfl) rfl ⟨[],rfl,by rw[rL,e9,b5];exact ah⟩
 rw[eQ ho]at zaM
 refine za5 λva ve FW=> ?_
 refine zaS λyl=> ?_
 obtain⟨R,e1,e2⟩:=zau yl hb hs
 refine za0 e1 λgn vj=> ?_
 have p1:=zeg w0 b gn vj s o (.slice A1 o.aJ.length c1,.slice A2 o.cj.length c2,.slice A3 o.dropped.length c3) (by omega) Hq.Zw
 obtain⟨J,Rp,fr,cm,dr⟩:=o
 simp only[fp,r5,aN]at p1 ⊢
 simp only at SY zp zb3 zdc ow Ng zaM ho
 unfold zaC
 simp only[b6]
 repeat' (first|(show WS _ _ _ (.seq (.seq (.region 1 _ _) _) _) _ _;refine N0 (λτ=>∃g5:Nat,τ=⟨[(5,ptr g5 0),(0,ptr gm 0),(0+1,.int .i64 (i:Int))],[],aK g5 35 [aZ J,.bool Rp,.slice A1 fr.length c1,.slice A2 cm.length c2,.slice A3 dr.length c3]*(zaC gm m k va ve el b gn vj s R*(r5 ⟨J,Rp,fr,cm,dr⟩ (.slice A1 fr.length c1,.slice A2 cm.length c2,.slice A3 dr.length c3)*G))⟩) ?_ ?_)|refine ab λK hK=> ?_|refine ax ?_|(refine aF ?_ ?_<;>intro hc<;>try exact aG)|((first|refine dn rfl rfl iI rfl ?_ ?_|refine dm rfl rfl iI rfl ?_ ?_|refine dU rfl rfl iI rfl ?_ ?_)<;>intro hc)|refine bT λg=> ?_)
 rotate_left 1
 iterate 4 (exact⟨_,⟨g,rfl⟩,cG,rfl,by unfold zaC;simp only[b6,r5];exact ah⟩)
 rotate_left 1
 ·exfalso
  apply ho
  have q1:fr=[]:=HD (by omega)
  have q2:cm=[]:=HD (by omega)
  have q3:dr=[]:=HD (by omega)
  have q4:J=[]:=by assumption
  rw[q1,q2,q3,q4]
  rfl
 ·rintro τ ⟨g5,rfl⟩
  have zgp:k.bs.length<=6:=by omega
  have zbV:el.length=m.mU.length:=by rw[<-FW];simp
  have zgr:i<k.bs.length:=by omega
  unfold zaC
  simp only[b6]
  cases Yg:s.Z2 ⟨J,Rp,fr,cm,dr⟩with
  |true=>
   rw[Yg]at p1 zaM
   simp only[YZ]at p1 zaM
   rw[zaM]
   repeat' (first|intro K hK|intro hc|refine xyZ ?_|refine aF ?_ ?_|refine bQ λg=> ?_|refine cZ p1 λvj2=> ?_|refine zfP λvx=> ?_|(refine ai (aR rfl rfl iI iI rfl iI iI zbt (by first|omega|(simp[al]<;>omega)) rfl) rfl ?_;intro va2))
   refine aj (.inl rfl) rfl ⟨[k8 (i:Int) 0],rfl,?_⟩
   rw[ad (y8 _ _ _ _)]
   refine aq.msh va va2 (by rw[EZ,FW];rfl) ?_
   refine aq.sta gn vj2 (e2 _) ?_
   unfold zaC
   simp only[b6,Ms.event,Ms.mod,zbl m i λs=>Zr.ZN s ⟨J,Rp,fr,cm,dr⟩,e9,evO,r5,k8,svV,cT,dS.zero,b5]
   exact ah
  |false=>
   rw[Yg]at p1 zaM
   simp only[AT,VC]at p1 zaM
   rw[zaM]
   clear zaM
   simp only[y7,zan]at p1 ⊢
   repeat' (first|(show WS _ _ _ (.seq (.seq (.region 5 _ _) _) _) _ _;refine N0 (λτ=>∃vj3:Value,τ=⟨[(6,ptr b 0),(5,ptr g5 0),(0,ptr gm 0),(0+1,.int .i64 (i:Int))],[],aK g5 35 [aZ J,.bool Rp,.slice A1 fr.length c1,.slice A2 cm.length c2,.slice A3 dr.length c3]*(zaC gm m k va ve el b gn vj3 {s with ay:=if Rp then []else s.ay} R*(r5 ⟨J,Rp,fr,cm,dr⟩ (.slice A1 fr.length c1,.slice A2 cm.length c2,.slice A3 dr.length c3)*G))⟩) ?_ ?_)|refine ab λK hK=> ?_|refine ax ?_|(refine aF ?_ ?_<;>intro hc<;>try exact aG)|refine bQ λg=> ?_|refine cZ p1 λvj2=> ?_)
   rotate_left 2
   ·rintro τ ⟨vj3,rfl⟩
    unfold zaC
    simp only[b6,y7,zan,r5]
    have hJ0:(if Rp=true then []else s.ay).length<=900:=(by split<;>(try simp only[HM])<;>omega)
    repeat' (first|refine ae (id:=7) (.range 11) 7 [4,6] ?_|refine zaN (id:=7) 6 5 (.range 11) 10 [4] ?_|refine ae (id:=8) (.range 13) 9 [4,6] ?_|refine zaN (id:=8) 0 5 (.range 13) 12 [4] ?_|intro K hK|refine ax ?_|refine bQ λg=> ?_|(refine aD (GD rfl rfl iI rfl iI iI (by first|omega|(simp[al]<;>omega)) rfl) rfl rfl rfl ?_;intro vj4)|refine zhF λvx=> ?_|(refine aD (aR rfl rfl iI iI rfl iI iI zbt (by first|omega|(simp[al]<;>omega)) rfl) rfl rfl rfl ?_;intro ve4))
    obtain⟨x,hx⟩:∃x:ES,x=((⟨(i:Int),0,⟨J,Rp,fr,cm,dr⟩⟩,(A1,fr.length,c1),(A2,cm.length,c2),(A3,dr.length,c3)):ES):=⟨_,rfl⟩
    obtain⟨m1,Mk⟩:∃m1,m1=(m.mod i (·.write ⟨J,Rp,fr,cm,dr⟩)).event ⟨i,0,⟨J,Rp,fr,cm,dr⟩⟩:=⟨_,rfl⟩
    have Cg:m.Kept m1 i:=by rw[Mk];exact(Ms.Kept.mod (f:=λx=>x.write ⟨J,Rp,fr,cm,dr⟩) λs=>rfl).trans (Ms.Kept.event _ _ _)
    have iu:m1.Zs[i]? =some (s.write ⟨J,Rp,fr,cm,dr⟩):=by rw[Mk];exact Ms.ZJ hs
    have zc5:m1.Zy:=by
     exact pbs
    have zcj:m1.mU=m.mU++[⟨(i:Int),0,⟨J,Rp,fr,cm,dr⟩⟩]:=by rw[Mk];rfl
    have zc9:(el++[x]).map (·.1)=m1.mU:=by rw[EZ,FW,zcj,hx];rfl
    rw[<-Mk]
    refine aV (λkk τ=>∃(j:Nat) (mj:Ms) (new:List ES),j+kk=fr.length/\mj=(fr.take j).foldl (Ms.ZB sub i) m1/\m.Kept mj i/\(∃sj,mj.Zs[i]? =some sj/\sj.Sound c)/\mj.Zy/\mj.mU.length<=m.mU.length+1+j/\τ=⟨[(84,.int .i64 (j:Int)),(83,.int .i64 (fr.length:Int)),(82,.slice A1 fr.length c1),(6,ptr b 0),(0,ptr gm 0),(0+1,.int .i64 (i:Int))],[],y8 gm k mj (el++[x]++new)*(e9 new*(rows 48 2 dA (.slice A1 fr.length c1) fr*(rows 70 2 dA (.slice A2 cm.length c2) cm*(rows 166 1 lr (.slice A3 dr.length c3) dr*G))))⟩) ?_ ?_
    ·refine⟨fr.length,_,⟨0,m1,[],by omega,rfl,Cg,⟨_,iu,Hq.wrote⟩,zc5,by rw[zcj];simp,rfl⟩,cG,rfl,?_⟩
     rw[rL]
     refine aq.msh va ve4 zc9 ?_
     refine aq.sta gn vj4 (by rw[Mk];exact e2 _) ?_
     have ham:zah 0 m1.Zs=zah 0 m.Zs:=zcP _ _ 0 Cg.ZO
     have hma:m1.Zx=m.Zx:=by rw[Mk];rfl
     unfold zaC
     simp only[b6,ham,hma,Cg.Zu,Cg.now,e9,aB,y7,zan,Zr.write,hx]
     exact ah
    ·rintro kk τ ⟨j,mj,new,ym,hmj,hkj,⟨sj,Zj,zbH⟩,zbF,zfO,rfl⟩
     rcases jP j fr.length with bW|kQ
     ·obtain⟨⟨to,fb⟩,hz⟩:∃z,fr[j]? =some z:=⟨_,aX bW⟩
      have hfm:=jq hz
      have Oz:=SY _ hfm
      have zbG:=Ms.ZG.frame (sub:=sub) (n:=1) Zj zbH (to,fb) Oz λhz t ht=>zdc _ hfm hz mj sj t hkj Zj zbH ht
      have gK:(fr.take (j+1)).foldl (Ms.ZB sub i) m1=Ms.ZB sub i mj (to,fb):=by rw[AP,hz,Qf,uaL,<-hmj];rfl
      have Xi:=hkj.trans zbG.kept
      have hD2:=zbG.here
      have hD3:=zbG.Zx zbF
      have hD4:=zbG.mU
      have XS:mj.Zs.length=m.Zs.length:=hkj.length
      simp only at Oz
      clear zbG hmj Mk Cg iu zc5 zcj zc9
      refine za5 λva1 ve1 zb2=> ?_
      refine zaS λzey=> ?_
      by_cases hto:to=0
      ·subst hto
       have XC:Ms.ZB sub i mj ((0:UInt32),fb)=Ms.Zt i fb mj.Zs.length mj:=by unfold Ms.ZB;rw[jF rfl]
       rw[XC]at Xi hD2 hD3 hD4 gK
       have QT:=λq hq=>Ms.Zz (m:=mj) (i:=i) (b:=fb) (by omega) Oz q hq
       have Y1:((0:UInt32),fb).1=0:=rfl
       simp only[zaA,b6]
       repeat' (first|refine zhe ?_|intro K hK|intro hc|refine xyZ ?_|refine aF ?_ ?_|((first|refine' LQ ?zh rfl ?_|refine' bk rfl rfl ?zh ?_);case zh=>intro F';first|exact bp rfl rfl iI (by first|assumption|omega|decide|rfl)|exact wo rfl rfl iI iI iI iI iI)|refine zw0 λg=> ?_|(refine ai (ph iI) rfl ?_;intro g8))
       refine aV (λk3 τ=>∃(q:Nat) (va':Value),q+k3=mj.Zs.length/\τ=⟨[(107,.int .i64 (q:Int)),(106,.int .i64 (k.bs.length:Int)),(8,ptr g8 0),(84,.int .i64 (j:Int)),(83,.int .i64 (fr.length:Int)),(82,.slice A1 fr.length c1),(6,ptr b 0),(0,ptr gm 0),(0+1,.int .i64 (i:Int))],[],aK gm 108 (b6 (Ms.Zt i fb q mj) ⟨k.vs,k.bs,k.r,va',ve1⟩)*(rows 114 3 flC va' (Ms.Zt i fb q mj).Zx*(aK g8 48 [u32 0,aZ fb]*(rows 115 1 Z4 k.vs k.bs*(mp u32 i64 k.r (zah 0 mj.Zs)*(zav k.bs mj.Zs*(rows 68 7 evC ve1 (el++[x]++new)*(e9 new*(rows 48 2 dA (.slice A1 fr.length c1) fr*(rows 70 2 dA (.slice A2 cm.length c2) cm*(rows 166 1 lr (.slice A3 dr.length c3) dr*G))))))))))⟩) ?_ ?_
       ·exact⟨mj.Zs.length,_,⟨0,va1,by omega,rfl⟩,cG,rfl,by simp only[Ms.Zt,b6];exact ah⟩
       ·rintro k3 τ ⟨q,va',hqk,rfl⟩
        obtain⟨q1,q2,q3,q4,q5⟩:=QT q (by omega)
        rcases jP q mj.Zs.length with zfk|zfR
        ·have hq6:(q:Int)<(k.bs.length:Int):=by omega
         have zax:Ms.Zt i fb (q+1) mj=if(Ms.Zt i fb q mj).ZZ i q then(Ms.Zt i fb q mj).ZM ⟨i,q,fb⟩else Ms.Zt i fb q mj:=rfl
         have zcv:=(q5 zbF).QG
         generalize Ms.Zt i fb q mj=mq at*
         have hg:=zc7 mq ⟨k.vs,k.bs,k.r,va',ve1⟩ (i:=i) (j:=q) (by omega) (by omega)
         have p7:=zct w0 gm mq ⟨k.vs,k.bs,k.r,va',ve1⟩ ⟨i,q,fb⟩ zcv
         simp only[flC]at p7
         have hi6:i<6:=by omega
         have zgw:q<6:=by omega
         cases hh:mq.ZZ i q with
         |true=>
          rw[hh]at hg zax
          simp only[YZ]at zax
          repeat' (first|intro K hK|intro hc|refine xyZ ?_|refine aF ?_ ?_|((refine' LQ ?zh rfl ?_);case zh=>intro F';first|exact bC rfl|exact kC rfl|exact db rfl|exact bq rfl iI rfl|exact ca rfl iI iI rfl|exact bp rfl rfl iI (by first|assumption|omega|decide|rfl)|exact wj rfl rfl (by omega)|exact LP iI iI rfl rfl)|(refine' LQ ?zh rfl ?_;(case zh=>intro F';exact za9 rfl rfl iI iI iI (by assumption)))|(refine' LQ ?zh rfl ?_;(case zh=>intro F';exact ca rfl iI iI (by assumption)))|refine cZ p7 λva2=> ?_)
          exact⟨k3 - 1,_,by omega,⟨q+1,va2,by omega,rfl⟩,cG,rfl,by rw[zax];exact ah⟩
         |false=>
          rw[hh]at hg zax
          simp only[AT,VC]at zax
          repeat' (first|intro K hK|intro hc|refine xyZ ?_|refine aF ?_ ?_|((refine' LQ ?zh rfl ?_);case zh=>intro F';first|exact bC rfl|exact kC rfl|exact db rfl|exact bq rfl iI rfl|exact bp rfl rfl iI (by first|assumption|omega|decide|rfl)|exact wj rfl rfl (by omega))|(refine' LQ ?zh rfl ?_;(case zh=>intro F';exact za9 rfl rfl iI iI iI (by assumption)))|(refine' LQ ?zh rfl ?_;(case zh=>intro F';exact ca rfl iI iI (by assumption)))|fail)
          exact⟨k3 - 1,_,by omega,⟨q+1,va',by omega,rfl⟩,cG,rfl,by rw[zax];exact ah⟩
        ·obtain rfl:q=mj.Zs.length:=by omega
         have hq6:¬(mj.Zs.length:Int)<(k.bs.length:Int):=by omega
         repeat' (first|intro K hK|intro hc|refine xyZ ?_|refine aF ?_ ?_|refine zw4 ?_)
         refine⟨kk - 1,_,by omega,⟨j+1,Ms.Zt i fb mj.Zs.length mj,new,by omega,gK.symm,Xi,hD2,hD3,by omega,rfl⟩,cG,rfl,?_⟩
         refine aq.msh va' ve1 (by rw[q4];exact zb2) ?_
         simp only[zaA,q1]
         exact ah
      ·have zgz:¬(to,fb).1=0:=hto
       have T8:=zbD to mj.Zs 0
       have hi6:i<6:=by omega
       obtain⟨R2,e3,e4⟩:=zau zey hb Zj
       refine za0 e3 λgn2 vj5=> ?_
       unfold zaC
       have XC:¬(((Zv mj.Zs to).map λj=>mj.ZZ i j)=some true)->Ms.ZB sub i mj (to,fb)=match sj.node with|some s=>sub (mj.mod i (·.run (s.l7 mj.now to))) (s.l7 mj.now to).out|none=>mj:=λh=>by
        unfold Ms.ZB;rw[eQ hto,eQ h,Zj];rfl
       have hfy:∀jj,Zv mj.Zs to=some jj->mj.ZZ i jj=true->Ms.ZB sub i mj (to,fb)=mj.ZM ⟨i,jj,fb⟩:=λjj h1 h2=>by
        unfold Ms.ZB;rw[eQ hto,jF (by rw[h1];simp[h2]),h1];rfl
       simp only[b6,y7,zan]
       cases jf:Zv mj.Zs to with
       |none=>
        rw[jf]at T8
        simp only[uag]at T8
        have za2:=XC (by rw[jf];simp)
        cases hn:sj.node with
        |none=>
         rw[hn]at za2
         simp only at za2
         rw[za2]at Xi hD2 hD3 hD4 gK
         simp only[hn,jo,zaB]
         repeat' (first|refine zhe ?_|intro K hK|intro hc|refine xyZ ?_|refine aF ?_ ?_|((first|refine' LQ ?zh rfl ?_|refine' bk rfl rfl ?zh ?_);case zh=>intro F';first|exact bp rfl rfl iI (by first|assumption|omega|decide|rfl)|exact bH rfl rfl iI (by first|assumption|omega|decide|rfl)|exact iJ rfl rfl iI iI iI iI iI (by assumption))|refine zw1 ?_|refine zw0 λg=> ?_|(refine ai (ph iI) rfl ?_;intro g8))
         refine⟨kk - 1,_,by omega,⟨j+1,mj,new,by omega,gK.symm,Xi,hD2,hD3,by omega,rfl⟩,cG,rfl,?_⟩
         refine aq.msh va1 ve1 zb2 ?_
         refine aq.sta gn2 vj5 e3 ?_
         unfold zaC
         simp only[b6,y7,zan,hn,jo,zaB]
         exact ah
        |some tn=>
         rw[hn]at za2
         simp only at za2
         rw[za2]at Xi hD2 hD3 hD4 gK
         have F6:=(zbH.node tn hn).1
         have p7:=AV w0 gn2 tn mj.now to F6
         have p8:=λv'=>(ow (to,fb) hfm hto mj (el++[x]++new) sj tn v' hkj Zj zbH hn zbF (by omega)).conv (X':=aK gm 108 (b6 mj ⟨k.vs,k.bs,k.r,va1,ve1⟩)*(rows 115 1 Z4 k.vs k.bs*(mp u32 i64 k.r (zah 0 mj.Zs)*(aK b 118 (zan (sj.run (tn.l7 mj.now to)) gn2 vj5)*(rows 5 1 bU vj5 sj.ay*(jg gn2 (tn.l7 mj.now to)*(R2*(rows 114 3 flC va1 mj.Zx*(rows 68 7 evC ve1 (el++[x]++new)*r5 (tn.l7 mj.now to).out v')))))))))
          (λZ=>by
           rw[ad (y8 _ _ _ _)]
           refine aq.msh va1 ve1 zb2 ?_
           refine aq.sta gn2 vj5 (e4 _) ?_
           unfold zaC
           rw[show zah 0 (mj.mod i λy=>y.run (tn.l7 mj.now to)).Zs=zah 0 mj.Zs from zbl mj i λs=>rfl]
           simp only[b6,Ms.mod,y7,zan,Zr.run,jo,zaB]
           exact ah) (λ_ _=>aq.refl _)
         simp only at p8
         generalize sub (mj.mod i λy=>y.run (tn.l7 mj.now to)) (tn.l7 mj.now to).out=mn at*
         generalize tn.l7 mj.now to=t2 at*
         simp only[fp,b6,zan,Zr.run,jo]at p7 p8
         simp only[hn,jo,zaB]
         repeat' (first|refine zhe ?_|refine ae (id:=23) (.range 14) 12 [5,9,11] ?_|intro K hK|intro hc|refine xyZ ?_|refine aF ?_ ?_|((first|refine' LQ ?zh rfl ?_|refine' bP rfl rfl rfl ?zh ?_|refine' bk rfl rfl ?zh ?_);case zh=>intro F';first|exact bp rfl rfl iI (by first|assumption|omega|decide|rfl)|exact bH rfl rfl iI (by first|assumption|omega|decide|rfl)|exact iJ rfl rfl iI iI iI iI iI (by assumption))|refine zw1 ?_|refine zw0 λg=> ?_|(refine ai (ph iI) rfl ?_;intro g8)|refine cZ p7 λx7=> ?_|refine cZ (p8 x7) λzar=> ?_)
         refine⟨kk - 1,_,by omega,⟨j+1,mn,new++zar,by omega,gK.symm,Xi,hD2,hD3,by omega,rfl⟩,cG,rfl,?_⟩
         rw[show el++[x]++(new++zar)=el++[x]++new++zar by simp,zaU]
         exact ah
       |some jj=>
        obtain⟨sx,hsx,_⟩:=ZE jf
        have V2:=(az.1 hsx).1
        have hj6:jj<6:=by omega
        rw[jf]at T8
        simp only[EL]at T8
        replace T8:bX (zah 0 mj.Zs) to=some ((jj:Nat):Int):=by rw[T8];simp
        have hg:=zc7 mj ⟨k.vs,k.bs,k.r,va1,ve1⟩ hi6 hj6
        simp only[b6]at hg
        cases hh:mj.ZZ i jj with
        |false=>
         rw[hh]at hg
         have za2:=XC (by rw[jf];simp[hh])
         cases hn:sj.node with
         |none=>
          rw[hn]at za2
          simp only at za2
          rw[za2]at Xi hD2 hD3 hD4 gK
          simp only[hn,jo,zaB]
          repeat' (first|refine zhe ?_|intro K hK|intro hc|refine xyZ ?_|refine aF ?_ ?_|((first|refine' LQ ?zh rfl ?_|refine' bk rfl rfl ?zh ?_);case zh=>intro F';first|exact bC rfl|exact kC rfl|exact db rfl|exact bq rfl iI rfl|exact ca rfl iI iI rfl|exact bp rfl rfl iI (by first|assumption|omega|decide|rfl)|exact bH rfl rfl iI (by first|assumption|omega|decide|rfl)|exact wj rfl rfl (by omega)|exact GI rfl rfl|exact BE rfl iI rfl|exact vH rfl rfl iI iI iI iI (by first|assumption|omega|(simp[al]<;>omega))|exact ja rfl iI iI iI (by assumption)|exact fD rfl rfl iI iI iI iI iI (by assumption))|refine zw1 ?_|refine zw0 λg=> ?_|(refine ai (ph iI) rfl ?_;intro g8)|(refine' LQ ?zh rfl ?_;(case zh=>intro F';exact za9 rfl rfl iI iI iI (by assumption)))|(refine' LQ ?zh rfl ?_;(case zh=>intro F';exact ca rfl iI iI (by assumption)))|fail)
          refine⟨kk - 1,_,by omega,⟨j+1,mj,new,by omega,gK.symm,Xi,hD2,hD3,by omega,rfl⟩,cG,rfl,?_⟩
          refine aq.msh va1 ve1 zb2 ?_
          refine aq.sta gn2 vj5 e3 ?_
          unfold zaC
          simp only[b6,y7,zan,hn,jo,zaB]
          exact ah
         |some tn=>
          rw[hn]at za2
          simp only at za2
          rw[za2]at Xi hD2 hD3 hD4 gK
          have F6:=(zbH.node tn hn).1
          have p7:=AV w0 gn2 tn mj.now to F6
          have p8:=λv'=>(ow (to,fb) hfm hto mj (el++[x]++new) sj tn v' hkj Zj zbH hn zbF (by omega)).conv (X':=aK gm 108 (b6 mj ⟨k.vs,k.bs,k.r,va1,ve1⟩)*(rows 115 1 Z4 k.vs k.bs*(mp u32 i64 k.r (zah 0 mj.Zs)*(aK b 118 (zan (sj.run (tn.l7 mj.now to)) gn2 vj5)*(rows 5 1 bU vj5 sj.ay*(jg gn2 (tn.l7 mj.now to)*(R2*(rows 114 3 flC va1 mj.Zx*(rows 68 7 evC ve1 (el++[x]++new)*r5 (tn.l7 mj.now to).out v')))))))))
           (λZ=>by
            rw[ad (y8 _ _ _ _)]
            refine aq.msh va1 ve1 zb2 ?_
            refine aq.sta gn2 vj5 (e4 _) ?_
            unfold zaC
            rw[show zah 0 (mj.mod i λy=>y.run (tn.l7 mj.now to)).Zs=zah 0 mj.Zs from zbl mj i λs=>rfl]
            simp only[b6,Ms.mod,y7,zan,Zr.run,jo,zaB]
            exact ah) (λ_ _=>aq.refl _)
          simp only at p8
          generalize sub (mj.mod i λy=>y.run (tn.l7 mj.now to)) (tn.l7 mj.now to).out=mn at*
          generalize tn.l7 mj.now to=t2 at*
          simp only[fp,b6,zan,Zr.run,jo]at p7 p8
          simp only[hn,jo,zaB]
          repeat' (first|refine zhe ?_|refine ae (id:=23) (.range 14) 12 [5,9,11] ?_|intro K hK|intro hc|refine xyZ ?_|refine aF ?_ ?_|((first|refine' LQ ?zh rfl ?_|refine' bP rfl rfl rfl ?zh ?_|refine' bk rfl rfl ?zh ?_);case zh=>intro F';first|exact bC rfl|exact kC rfl|exact db rfl|exact bq rfl iI rfl|exact ca rfl iI iI rfl|exact bp rfl rfl iI (by first|assumption|omega|decide|rfl)|exact bH rfl rfl iI (by first|assumption|omega|decide|rfl)|exact wj rfl rfl (by omega)|exact GI rfl rfl|exact BE rfl iI rfl|exact vH rfl rfl iI iI iI iI (by first|assumption|omega|(simp[al]<;>omega))|exact ja rfl iI iI iI (by assumption)|exact fD rfl rfl iI iI iI iI iI (by assumption))|refine zw1 ?_|refine zw0 λg=> ?_|(refine ai (ph iI) rfl ?_;intro g8)|(refine' LQ ?zh rfl ?_;(case zh=>intro F';exact za9 rfl rfl iI iI iI (by assumption)))|(refine' LQ ?zh rfl ?_;(case zh=>intro F';exact ca rfl iI iI (by assumption)))|refine cZ p7 λx7=> ?_|refine cZ (p8 x7) λzar=> ?_)
          refine⟨kk - 1,_,by omega,⟨j+1,mn,new++zar,by omega,gK.symm,Xi,hD2,hD3,by omega,rfl⟩,cG,rfl,?_⟩
          rw[show el++[x]++(new++zar)=el++[x]++new++zar by simp,zaU]
          exact ah
        |true=>
         rw[hh]at hg
         rw[hfy jj jf hh]at Xi hD2 hD3 hD4 gK
         have p7:=zct w0 gm mj ⟨k.vs,k.bs,k.r,va1,ve1⟩ ⟨i,jj,fb⟩ zbF.QG
         simp only[flC,b6]at p7
         repeat' (first|refine zhe ?_|intro K hK|intro hc|refine xyZ ?_|refine aF ?_ ?_|((first|refine' LQ ?zh rfl ?_|refine' bk rfl rfl ?zh ?_);case zh=>intro F';first|exact bC rfl|exact kC rfl|exact db rfl|exact bq rfl iI rfl|exact ca rfl iI iI rfl|exact bp rfl rfl iI (by first|assumption|omega|decide|rfl)|exact bH rfl rfl iI (by first|assumption|omega|decide|rfl)|exact wj rfl rfl (by omega)|exact GI rfl rfl|exact BE rfl iI rfl|exact LP iI iI rfl rfl|exact vH rfl rfl iI iI iI iI (by first|assumption|omega|(simp[al]<;>omega))|exact ja rfl iI iI iI (by assumption)|exact fD rfl rfl iI iI iI iI iI (by assumption))|refine zw0 λg=> ?_|(refine ai (ph iI) rfl ?_;intro g8)|(refine' LQ ?zh rfl ?_;(case zh=>intro F';exact za9 rfl rfl iI iI iI (by assumption)))|(refine' LQ ?zh rfl ?_;(case zh=>intro F';exact ca rfl iI iI (by assumption)))|refine cZ p7 λva2=> ?_)
         refine⟨kk - 1,_,by omega,⟨j+1,mj.ZM ⟨i,jj,fb⟩,new,by omega,gK.symm,Xi,hD2,hD3,by omega,rfl⟩,cG,rfl,?_⟩
         refine aq.msh va2 ve1 zb2 ?_
         refine aq.sta (m:=mj.ZM ⟨i,jj,fb⟩) gn2 vj5 e3 ?_
         unfold zaC
         rw[show(mj.ZM ⟨i,jj,fb⟩).Zs=mj.Zs from rfl]
         simp only[b6,y7,zan]
         exact ah
     ·obtain rfl:j=fr.length:=by omega
      rw[PE]at hmj
      have IC:¬(fr.length:Int)<(fr.length:Int):=by omega
      repeat' (first|intro K hK|intro hc|refine xyZ ?_|refine aF ?_ ?_)
      refine aj (.inr rfl) rfl ⟨x::new,rfl,?_⟩
      rw[<-hmj,show el++x::new=el++[x]++new by simp,e9,hx]
      simp only[evO,r5,svV,cT]
      exact ah
   ·exact⟨_,⟨.slice none 0 0,rfl⟩,cG,rfl,by unfold zaC;simp only[b6,y7,zan,r5,hc,YZ];exact ah⟩
   ·exact⟨_,⟨vj2,rfl⟩,cG,rfl,by unfold zaC;simp only[b6,y7,zan,r5,hc,AT,VC];exact ah⟩
theorem zdq (gm:Nat) (k:MH) (i b c:Nat) (hb:k.bs[i]? =some b) (m:Ms) (el:List ES) (o:dS) (v:Value×Value×Value) (s:Zr) (hs:m.Zs[i]? =some s) (Hq:s.ZC o c) (SY:∀f∈o.aJ,f.2.length<=100000) (zp:o.aJ.length<=100) (h0:∀f∈o.aJ,f.1=0) (za1:m.Zy) (zb3:m.mU.length<=890000) (h6:m.Zs.length<=6):
 Spec ucC w0 85 [ptr gm 0,.int .i64 (i:Int),fp o v] (y8 gm k m el*r5 o v) (λ_:List ES=> .tuple #[]) (λnew=>y8 gm k (Ms.ZD i m o) (el++new)*e9 new):=
 zcr w0 gm k (λm _=>m) i b c 899000 (by omega) hb m el o v s hs Hq SY (by omega) za1 (by omega) h6 (λf hf hz=>absurd (h0 f hf) hz) (λf hf hz=>absurd (h0 f hf) hz)
theorem zc0 (t:Nd) (now nb):(t.l7 now nb).out.aJ.length<=1:=by
 have h:=(Nd.Step.brk (t.begin now) nb).aJ;rw[Nd.lk]at h;obtain⟨_,_,_,_,_,_,_,e8,_⟩:=((t.begin now).brk nb).tD;unfold Nd.l7;rw[e8];simpa using h
theorem zd7 (gm:Nat) (k:MH) (i b c:Nat) (hb:k.bs[i]? =some b) (m:Ms) (el:List ES) (o:dS) (v:Value×Value×Value) (s:Zr) (hs:m.Zs[i]? =some s) (Hq:s.ZC o c) (SY:∀f∈o.aJ,f.2.length<=100000) (zp:o.aJ.length<=100000) (za1:m.Zy) (zb3:m.mU.length+o.aJ.length+2<=890000) (h6:m.Zs.length<=6):
 Spec ucC w0 85 [ptr gm 0,.int .i64 (i:Int),fp o v] (y8 gm k m el*r5 o v) (λ_:List ES=> .tuple #[]) (λnew=>y8 gm k (Ms.emit i m o) (el++new)*e9 new):=by
 refine zcr w0 gm k (Ms.ZD i) i b c 890000 (by omega) hb m el o v s hs Hq SY zp za1 zb3 h6 (λf hf hz m' s' t _ h1 h2 ht=> ?_) (λf hf hz m' el' s' t v' hk h1 h2 ht ha he=> ?_)
 ·have hw:=(h2.node t ht).1.GA m'.now f.1
  exact Ms.ZG.run (Ms.ZG.ZD (Ms.ZJ h1) (h2.Z5 ht hw) hw.R9.le (Nd.ZP _ _ _))
 ·have hw:=(h2.node t ht).1.GA m'.now f.1
  have vS:m'.Kept (m'.mod i (·.run (t.l7 m'.now f.1))) i:=Ms.Kept.mod (f:=λx=>x.run (t.l7 m'.now f.1)) λs=>rfl
  refine zdq w0 gm k i b c hb _ el' _ v' _ (Ms.ZJ h1) (h2.Z5 ht hw) hw.R9.le (by have:=zc0 t m'.now f.1;omega) (Nd.ZP _ _ _) ⟨ha.QG,λx hx=> ?_⟩ he (by rw[vS.length,hk.length];exact h6)
  rw[vS.length]
  exact ha.each x hx
end
section
open Go.RowKit
structure Ms.zaQ (m:Ms) (c:Nat):Prop where
 short:m.Zs.length<=6
 sound:∀(i:Nat) s,m.Zs[i]? =some s->s.Sound c
 Zx:m.Zy
@[irreducible] def evB:Nat:=42501
theorem zdr:evB=42501:=by unfold evB;rfl
structure Ms.Told (m mq:Ms) (q c:Nat):Prop where
 now:mq.now=m.now
 Zu:mq.Zu=m.Zu
 ZO:mq.Zs.map (·.addr)=m.Zs.map (·.addr)
 RJ:∀i,q<=i->mq.Zs[i]? =m.Zs[i]?
 sound:∀(i:Nat) s,mq.Zs[i]? =some s->s.Sound (c+1)
 Zx:mq.Zy
 mU:mq.mU.length<=m.mU.length+q*evB
theorem Ms.Told.length {m mq:Ms} {q c} (h:m.Told mq q c):mq.Zs.length=m.Zs.length:=by
 have:=G2 List.length h.ZO;simpa using this
theorem Ms.Told.zero {m:Ms} {c} (h:m.zaQ c):m.Told m 0 c:=by
 constructor
 ·rfl
 ·rfl
 ·rfl
 ·exact λ_ _=>rfl
 ·exact λi s hs=>(h.sound i s hs).mono (Xn c)
 ·exact h.Zx
 ·rw[ucm];exact uL _
theorem Ms.zbQ {m:Ms} {c:Nat} (h:m.zaQ c) (hc:c<=8500) (hn:m.now.toNat<=4611686018427387904):∀q,q<=m.Zs.length->m.Told (Ms.ZF q m) q c
 |0,_=>Ms.Told.zero h
 |q+1,hq=>by
  have ih:=Ms.zbQ h hc hn q (by omega);have zdw:=ih.RJ q (uL _);obtain⟨s,hs⟩:∃s,m.Zs[q]? =some s:=⟨_,aX (by omega)⟩
  rw[hs]at zdw;have Hq:=h.sound q s hs;unfold Ms.ZF;rw[zdw];simp only[G6];cases ht:s.node with
  |none=>
   have h1:=ih.mU;have h2:(Ms.ZF q m).mU.length<=m.mU.length+(q+1)*evB:=by rw[uat];omega
   exact⟨ih.now,ih.Zu,ih.ZO,λi hi=>ih.RJ i (by omega),ih.sound,ih.Zx,h2⟩
  |some t=>
   simp only;rw[ih.now];have F6:=(Hq.node t ht).1;have hw:=F6.Dx hc hn;have zbO:=(Hq.mono (Xn c)).Z5 ht hw;have OA:=Nd.zbx F6 hc hn;have hD:=Ms.ZG.run (Ms.ZG.emit (Ms.ZJ (f:=(·.run (t.iH m.now))) zdw) zbO hw.R9.le);exact⟨hD.kept.now.trans ih.now,hD.kept.Zu.trans ih.Zu,hD.kept.ZO.trans ih.ZO,λi hi=>(hD.kept.other i (by omega)).trans (ih.RJ i (by omega)),λi s' eI=>by
    by_cases e:i=q
    ·subst e
     obtain⟨s2,h1,h2⟩:=hD.here
     rw[h1]at eI
     cases eI
     exact h2
    ·rw[hD.kept.other i e]at eI
     exact ih.sound i s' eI,hD.Zx ih.Zx,by have:=hD.mU;have:=ih.mU;have:=zdr;rw[uat];omega⟩
theorem Zr.zaz (s:Zr) (t):(s.run t).Zw=s.Zw:=rfl
theorem Zr.zao (s:Zr) (t):(s.run t).ZL=s.ZL:=rfl
theorem Zr.v8 (s:Zr) (t):(s.run t).ay=s.ay:=rfl
attribute [local irreducible] WS LS OpQ y6 cn cv Spec bA aK
variable (w0:World)
theorem zaL (gm:Nat) (k:MH) (i b c:Nat) (hb:k.bs[i]? =some b) (m:Ms) (el:List ES) (o:dS) (v:Value×Value×Value) (s:Zr) (f:Zr->Zr) (t':Nd) (hfa:∀s,(f s).addr=s.addr) (hn:(f s).node=some t') (hs:m.Zs[i]? =some s) (Hq:(f s).ZC o c) (SY:∀f∈o.aJ,f.2.length<=100000) (zp:o.aJ.length<=100000) (za1:m.Zy) (zb3:m.mU.length+o.aJ.length+2<=890000) (h6:m.Zs.length<=6)
 (FW:el.map (·.1)=m.mU) (R:af) (e2:zav k.bs (m.Zs.modify i f)=zaT b (f s)*R) (va ve:Value) (gn:Nat) (vj:Value):
 Spec ucC w0 85 [ptr gm 0,.int .i64 (i:Int),fp o v] (aK gm 108 (b6 m ⟨k.vs,k.bs,k.r,va,ve⟩)*(rows 115 1 Z4 k.vs k.bs*(mp u32 i64 k.r (zah 0 m.Zs)*(aK b 118 [u32 s.addr,ptr gn 0,vj,.int .i64 (f s).Zw,.bool (f s).ZL]*(rows 5 1 bU vj (f s).ay*(jg gn t'*(R*(rows 114 3 flC va m.Zx*(rows 68 7 evC ve el*r5 o v)))))))))
  (λ_:List ES=> .tuple #[]) (λnew=>y8 gm k (Ms.emit i (m.mod i f) o) (el++new)*e9 new):=by
 have hk:m.Kept (m.mod i f) i:=Ms.Kept.mod hfa
 refine(zd7 w0 gm k i b c hb (m.mod i f) el o v (f s) (Ms.ZJ hs) Hq SY zp ⟨za1.QG,λx hx=>by rw[hk.length];exact za1.each x hx⟩ zb3 (by rw[hk.length];exact h6)).conv (λZ=> ?_) (λ_ _=>aq.refl _)
 rw[ad (y8 _ _ _ _)]
 refine aq.msh va ve FW ?_
 refine aq.sta (m:=m.mod i f) gn vj e2 ?_
 unfold zaC
 rw[show zah 0 (m.mod i f).Zs=zah 0 m.Zs from zbl m i hfa]
 simp only[b6,Ms.mod,y7,zan,hn,jo,zaB,hfa]
 exact ah
theorem zdf (gm k) (m:Ms) (el n c) (hf:m.zaQ c) (hc:c<=8500) (hn:(m.now+n).toNat<=4611686018427387904) (hev:m.mU=[]):Spec ucC w0 40 [ptr gm 0,u64 n] (y8 gm k m el) (λ_:List ES=> .tuple #[]) (λnew=>y8 gm k (m.tick n) (el++new)*e9 new):=by
 refine eZ Tryz.func40 Tryz.ntmps40 λG=> ?_;obtain⟨m1,Mk⟩:∃m1:Ms,m1={m with now:=m.now+n}:=⟨_,rfl⟩
 have zdd:m.tick n=Ms.ZF m1.Zs.length m1:=by rw[Mk];rfl
 have j7:m1.zaQ c:=by rw[Mk];exact⟨hf.short,hf.sound,⟨hf.Zx.QG,hf.Zx.each⟩⟩
 have OP:m1.now.toNat<=4611686018427387904:=by rw[Mk];exact hn
 have zcj:m1.mU=[]:=by rw[Mk];exact hev
 have h6:=j7.short;rw[zdd];refine za5 λva ve FW=> ?_;refine zaS λyl=> ?_;have zgo:k.bs.length=m1.Zs.length:=by rw[Mk];exact yl
 have zc9:el.map (·.1)=m1.mU:=by rw[Mk];exact FW
 simp only[zaA,b6,aN];repeat' (first|intro K hK|refine ax ?_|refine zw1 ?_|refine bQ λg=> ?_)
 refine aV (λkk τ=>∃(q:Nat) (new:List ES),q+kk=m1.Zs.length/\τ=⟨[(19,.int .i64 (q:Int)),(18,.int .i64 (k.bs.length:Int)),(17,k.vs),(0,ptr gm 0)],[],y8 gm k (Ms.ZF q m1) (el++new)*(e9 new*G)⟩) ?_ ?_
 ·refine⟨m1.Zs.length,_,⟨0,[],by omega,rfl⟩,cG,rfl,?_⟩;rw[rL];refine aq.msh va ve zc9 ?_;rw[Mk];simp only[Ms.ZF,zaA,b6,e9,aB];exact ah
 ·clear FW zc9 yl zdd;rintro kk τ ⟨q,new,hqk,rfl⟩;have hT:=Ms.zbQ j7 hc OP q (by omega);rcases jP q m1.Zs.length with bW|kQ
  ·obtain⟨s,hs⟩:∃s,m1.Zs[q]? =some s:=⟨_,aX bW⟩
   have Hq:=j7.sound q s hs;have Yd:=(hT.RJ q (uL _)).trans hs;have zax:Ms.ZF (q+1) m1=match s.node with|some t=>Ms.emit q ((Ms.ZF q m1).mod q (·.run (t.iH (Ms.ZF q m1).now))) (t.iH (Ms.ZF q m1).now).out|none=>Ms.ZF q m1:=by
    exact pbF
   rw[hT.now]at zax;have hlq:=hT.length;have zcv:=hT.Zx;have zeY:=hT.mU;have zgx:=hT.sound q s Yd;rw[zcj,HM,ubz,zdr]at zeY;have X2:=hT.now;clear hT;generalize Ms.ZF q m1=mq at*
   refine za5 λva1 ve1 FW=> ?_;refine zaS λzfM=> ?_;obtain⟨b,hb⟩:∃b,k.bs[q]? =some b:=⟨_,aX (by omega)⟩
   obtain⟨R,e1,e2⟩:=zau zfM hb Yd;refine za0 e1 λgn vj=> ?_;unfold zaC;have Wc:(q:Int)<(k.bs.length:Int):=by omega
   simp only[b6,y7,zan,X2];cases ht:s.node with
   |none=>
    rw[ht]at zax;simp only at zax;simp only[jo,zaB];repeat' (first|intro K hK|intro hc|refine xyZ ?_|refine aF ?_ ?_|refine zw8 ?_|refine zw1 ?_)
    refine⟨kk - 1,_,by omega,⟨q+1,new,by omega,rfl⟩,cG,rfl,?_⟩;rw[zax];refine aq.msh va1 ve1 FW ?_;refine aq.sta gn vj e1 ?_;unfold zaC;simp only[b6,y7,zan,ht,jo,zaB,X2];exact ah
   |some t=>
    rw[ht]at zax;simp only at zax;have F6:=(Hq.node t ht).1;have hw:=F6.Dx hc OP;have zbO:=(Hq.mono (Xn c)).Z5 ht hw;have OA:=Nd.zbx F6 hc OP;have p1:=EW w0 gn t m1.now F6 hc OP;have p2:=λv=>zaL w0 gm k q b (c+1) hb mq (el++new) (t.iH m1.now).out v s (·.run (t.iH m1.now)) (t.iH m1.now) (λ_=>rfl) rfl Yd zbO hw.R9.le (by omega) zcv (by rw[hlq]at*;omega) (by omega) FW R (e2 _) va1 ve1 gn vj;simp only[jo,zaB];generalize t.iH m1.now=t2 at*
    simp only[fp,b6,Zr.zaz,Zr.zao,Zr.v8,X2]at p1 p2;repeat' (first|refine ae (id:=5) (.range 12) 10 [5,9] ?_|intro K hK|intro hc|refine xyZ ?_|refine aF ?_ ?_|refine zbj ?_|refine zw1 ?_|refine cZ p1 λx7=> ?_|refine cZ (p2 x7) λzar=> ?_)
    refine⟨kk - 1,_,by omega,⟨q+1,new++zar,by omega,rfl⟩,cG,rfl,?_⟩;rw[zax,show el++(new++zar)=el++new++zar by simp,zaU];exact ah
  ·obtain rfl:q=m1.Zs.length:=by omega
   have Wc:¬(m1.Zs.length:Int)<(k.bs.length:Int):=by omega
   repeat' (first|intro K hK|intro hc|refine xyZ ?_|refine aF ?_ ?_)
   exact aj (.inr rfl) rfl ⟨new,rfl,ah⟩
end
section
open Go.RowKit
section
variable {P:Program} {n:fT} {w0:World} {E:Env} {D:List Deferred} {H F F1 F2:af} {Q:Exit->St->Prop} {l l':List Oper}
theorem nw {id} (t idx cp bs) {g off bt cs} (hs:iT P l idx (yA bs) cp=true) (hl:jK l idx=some l') (hx:E.get t=some (ptr g off)) (hR:v7 H g bt cs F) (h:DL P n w0 l.toArray Q D (aK g bt cs) F (yA bs) cp 0 false l' E emp):WS P n w0 (.region id l.toArray true) Q ⟨E,D,H⟩:=
 iK idx l' (aK g bt cs) F emp (yA bs) cp hs (by rw[hR.eq,b5]) (gO hl) h
instance (priority:=low) zf3 (G X H F:af) [h:Own H X F]:Own (H*G) X (F*G):=⟨by rw[h.eq,ad]⟩
theorem zbZ {d:Option Tmp} {ty:TypeId} {pos:String} {after:Array Edge} {gu:Option (Nat×Bool)} {x:Operand} {t:TypeId} {b:Nat} {s:Zr} (hx:E.ev x=some (ptr b 0)) (hl:Own H (zaT b s) F) (ht:fi P t):OpQ P n w0 ⟨d,.load t x,ty,pos,after,gu⟩ E H (u32 s.addr):=λa w se hs=>by
 have h1:=hs.cast hl.eq;unfold zaT at h1;obtain⟨y,h2⟩:=h1.ex;unfold y7 zan at h2;rw[ad]at h2;exact ca (cs:=zan s y.1 y.2) hx ⟨rfl⟩ ht rfl a w se h2
end
theorem zbP {bs:List Nat} {Zs:List Zr} {i b j b2 s s2} (hl:bs.length=Zs.length) (hb:bs[i]? =some b) (hs:Zs[i]? =some s) (FT:bs[j]? =some b2) (fP:Zs[j]? =some s2) (OE:i≠j):∃R,zav bs Zs=zaT b s*(zaT b2 s2*R)/\∀f:Zr->Zr,zav bs (Zs.modify i f)=zaT b (f s)*(zaT b2 s2*R):=by
 obtain⟨R1,e1,e2,e3⟩:=lE zaT hb hs;have kQ:∀{α:Type} (l:List α),(l.eraseIdx i)[if j<i then j else j - 1]? =l[j]? :=λl=>by
  exact pa4
 obtain⟨R,d1,_,_⟩:=lE zaT ((kQ bs).trans FT) ((kQ Zs).trans fP);rw[e3]at d1;subst d1;exact paE
theorem zbd {t:Nd} {c} (h:t.Rest c) (now src f):(t.iX now src f).out.aJ.length<=6:=by
 have h:=(Nd.Step.mb (h.inv.begin now) now src f).aJ;rw[Nd.lk]at h;obtain⟨_,_,_,_,_,_,_,e8,_⟩:=((t.begin now).mb now src f).tD;unfold Nd.iX;rw[e8];simpa using h
def opC (o:Z3):List Value:=[.int .i64 o.kind,.int .i64 o.a,.int .i64 o.b,.int .i64 o.n,.bool o.on,aZ o.text]
def opA (o:Z3):Value:= .agg (opC o).toArray
theorem Ms.Zy.erase {m:Ms} (h:m.Zy) (k):Ms.Zy {m with Zx:=m.Zx.eraseIdx k}:=by
 refine⟨?_,λx hx=>h.each x ((W8 _ _).subset hx)⟩;show(m.Zx.eraseIdx k).length<=48;have:=h.QG;rw[NV];split<;>omega
attribute [local irreducible] WS LS OpQ y6 cn cv Spec bA aK
variable (w0:World)
theorem zde (gm k) (m:Ms) (el) (o:Z3) (kk c) (hf:m.zaQ c) (hkk:kk<m.Zx.length) (hb: -9223372036854775808<=o.n/\o.n<=9223372036854775807) (hev:m.mU=[]):Spec ucC w0 39 [ptr gm 0,opA o,.int .i64 (kk:Int)] (y8 gm k m el) (λ_:List ES=> .tuple #[]) (λnew=>y8 gm k (m.frame o kk) (el++new)*e9 new):=by
 obtain⟨f,zp⟩:∃f,m.Zx[kk]? =some f:=⟨_,aX hkk⟩
 obtain⟨a1,a2,a3⟩:=hf.Zx.each _ (jq zp);have h6:=hf.short;have zda:=hf.Zx.QG;obtain⟨s,hs⟩:∃s,m.Zs[f.dst]? =some s:=⟨_,aX a2⟩
 obtain⟨s1,iu⟩:∃s,m.Zs[f.src]? =some s:=⟨_,aX a1⟩
 have p1:=λv=>zb6 w0 v m.Zx kk hkk (by omega);obtain⟨kind,oa,ob,on_,oo,ot⟩:=o;simp only at hb;refine eZ Tryz.func39 Tryz.ntmps39 λG=> ?_;refine za5 λva ve FW=> ?_;refine zaS λyl=> ?_;obtain⟨b,Xs⟩:∃b,k.bs[f.dst]? =some b:=⟨_,aX (by omega)⟩
 obtain⟨b1,zff⟩:∃b,k.bs[f.src]? =some b:=⟨_,aX (by omega)⟩
 unfold Ms.frame;rw[zp];simp only[opA,opC,aN];by_cases k4:kind=4
 ·subst k4;rw[jF rfl,hs];simp only[G6];have Hq:=hf.sound f.dst s hs;rw[iu];by_cases OE:f.dst=f.src
  ·obtain rfl:b=b1:=by rw[OE,zff]at Xs;exact(PL Xs).symm
   obtain rfl:s=s1:=by rw[OE,iu]at hs;exact(PL hs).symm
   obtain⟨R,e1,e2⟩:=zau yl Xs hs;refine za0 e1 λgn vj=> ?_;unfold zaC;simp only[b6,y7,zan];cases ht:s.node with
   |none=>
    simp only[jo,zaB];repeat' (first|refine zgA ?_|intro hc|refine xyZ ?_|refine aF ?_ ?_|refine zgI ?_|refine zw1 ?_|refine bT λg=> ?_|refine bQ λg=> ?_|refine zw0 λg=> ?_|(refine ai (aa iI rfl (p1 _) iI) rfl ?_;intro va2))
    refine aj (.inr rfl) rfl ⟨[],rfl,?_⟩;rw[rL,ad (y8 _ _ _ _)];refine aq.msh va2 ve FW ?_;refine aq.sta (m:={m with Zx:=m.Zx.eraseIdx kk}) gn vj e1 ?_;unfold zaC;simp only[b6,y7,zan,ht,jo,zaB,e9,aB];exact ah
   |some t=>
    have F6:=(Hq.node t ht).1;have hw:=F6.wa m.now s.addr f.bytes;have zbO:=Hq.Z5 ht hw;have OA:=zbd F6 m.now s.addr f.bytes;have p2:=λv=>HK w0 gn t m.now s.addr f.bytes F6 (by omega) v (rows 5 1 bU v f.bytes);have p3:=λva2 v=>zaL w0 gm k f.dst b c Xs {m with Zx:=m.Zx.eraseIdx kk} el (t.iX m.now s.addr f.bytes).out v s (·.run (t.iX m.now s.addr f.bytes)) (t.iX m.now s.addr f.bytes) (λ_=>rfl) rfl hs zbO hw.R9.le (by omega) (hf.Zx.erase kk) (by rw[hev];simp only[HM];omega) h6 FW R (e2 _) va2 ve gn vj;simp only[jo,zaB,EL,CV];generalize t.iX m.now s.addr f.bytes=t2 at*
    simp only[fp,b6,Zr.zaz,Zr.zao,Zr.v8,ad]at p2 p3 ⊢;repeat' (first|refine zgA ?_|intro hc|refine xyZ ?_|refine aF ?_ ?_|refine zbj ?_|refine zw1 ?_|refine bT λg=> ?_|refine bQ λg=> ?_|refine zw0 λg=> ?_|(refine ai (aa iI rfl (p1 _) iI) rfl ?_;intro va2)|(show WS _ _ _ (.region 7 _ true) _ _;refine nw 6 (.range 27) 25 [6,10,14,17,18,21] (by decide+kernel) rfl rfl iI ?_)|(refine aD (vB rfl iI iI iI (by omega)) rfl rfl rfl ?_;intro vb)|(refine aD (aa iI rfl (p2 _) iI) rfl rfl rfl ?_;intro x7)|refine cZ (p3 va2 x7) λzar=> ?_)
    exact aj (.inr rfl) rfl ⟨zar,rfl,ah⟩
  ·obtain⟨R,e1,e2⟩:=zbP yl Xs hs zff iu OE;refine za0 e1 λgn vj=> ?_;unfold zaC;simp only[b6,y7,zan];cases ht:s.node with
   |none=>
    simp only[jo,zaB];repeat' (first|refine zgA ?_|intro hc|refine xyZ ?_|refine aF ?_ ?_|refine zgI ?_|refine zw1 ?_|refine bT λg=> ?_|refine bQ λg=> ?_|refine zw0 λg=> ?_|(refine ai (aa iI rfl (p1 _) iI) rfl ?_;intro va2))
    refine aj (.inr rfl) rfl ⟨[],rfl,?_⟩;rw[rL,ad (y8 _ _ _ _)];refine aq.msh va2 ve FW ?_;refine aq.sta (m:={m with Zx:=m.Zx.eraseIdx kk}) gn vj e1 ?_;unfold zaC;simp only[b6,y7,zan,ht,jo,zaB,e9,aB];exact ah
   |some t=>
    have F6:=(Hq.node t ht).1;have hw:=F6.wa m.now s1.addr f.bytes;have zbO:=Hq.Z5 ht hw;have OA:=zbd F6 m.now s1.addr f.bytes;have p2:=λv=>HK w0 gn t m.now s1.addr f.bytes F6 (by omega) v (rows 5 1 bU v f.bytes);have p3:=λva2 v=>zaL w0 gm k f.dst b c Xs {m with Zx:=m.Zx.eraseIdx kk} el (t.iX m.now s1.addr f.bytes).out v s (·.run (t.iX m.now s1.addr f.bytes)) (t.iX m.now s1.addr f.bytes) (λ_=>rfl) rfl hs zbO hw.R9.le (by omega) (hf.Zx.erase kk) (by rw[hev];simp only[HM];omega) h6 FW (zaT b1 s1*R) (e2 _) va2 ve gn vj;simp only[jo,zaB,EL,CV];generalize t.iX m.now s1.addr f.bytes=t2 at*
    simp only[fp,b6,Zr.zaz,Zr.zao,Zr.v8,ad]at p2 p3 ⊢;repeat' (first|refine zgA ?_|intro hc|refine xyZ ?_|refine aF ?_ ?_|refine zbj ?_|((first|refine' LQ ?zh rfl ?_|refine' bP rfl rfl rfl ?zh ?_);case zh=>intro F';exact bE rfl rfl iI)|refine bT λg=> ?_|refine bQ λg=> ?_|refine zw0 λg=> ?_|(refine ai (aa iI rfl (p1 _) iI) rfl ?_;intro va2)|(show WS _ _ _ (.region 7 _ true) _ _;refine nw 6 (.range 27) 25 [6,10,14,17,18,21] (by decide+kernel) rfl rfl iI ?_)|(refine' bP rfl rfl rfl ?zh ?_;(case zh=>intro F';exact zbZ (s:=s1) (b:=b1) rfl iI iI))|(refine aD (vB rfl iI iI iI (by omega)) rfl rfl rfl ?_;intro vb)|(refine aD (aa iI rfl (p2 _) iI) rfl rfl rfl ?_;intro x7)|refine cZ (p3 va2 x7) λzar=> ?_)
    exact aj (.inr rfl) rfl ⟨zar,rfl,ah⟩
 ·rw[eQ k4];by_cases k5:kind=5
  ·subst k5;rw[jF rfl];simp only[zaA,b6];repeat' (first|intro hc|refine xyZ ?_|refine aF ?_ ?_|refine zw2 ?_|refine bT λg=> ?_|refine bQ λg=> ?_|refine zw0 λg=> ?_|(refine ai (aa iI rfl (p1 _) iI) rfl ?_;intro va2))
   refine aj (.inr rfl) rfl ⟨[],rfl,?_⟩;rw[rL,ad (y8 _ _ _ _)];refine aq.msh va2 ve FW ?_;simp only[zaA,b6,e9,aB];exact ah
  ·rw[eQ k5];by_cases k6:kind=6
   ·subst k6;rw[jF rfl];have p4:=zct w0 gm m ⟨k.vs,k.bs,k.r,va,ve⟩ f zda;simp only[flC,b6]at p4;simp only[zaA,b6];repeat' (first|intro hc|refine xyZ ?_|refine aF ?_ ?_|refine zw2 ?_|refine bT λg=> ?_|refine zw0 λg=> ?_|refine cZ p4 λva2=> ?_)
    refine aj (.inr rfl) rfl ⟨[],rfl,?_⟩;rw[rL,ad (y8 _ _ _ _)];refine aq.msh va2 ve FW ?_;simp only[zaA,b6,e9,aB];rw[show(m.ZM f).Zs=m.Zs from rfl];exact ah
   ·rw[eQ k6];by_cases k7:kind=7
    ·subst k7;by_cases Wa:0<=on_
     ·rw[jF ⟨rfl,Wa⟩];obtain⟨q,hq⟩:∃q,q=f.bytes.length - min on_.toNat f.bytes.length:=⟨_,rfl⟩
      rw[<-hq];haveI:fB ((f.bytes.length:Int) - min on_ (f.bytes.length:Int)) q:=⟨by omega⟩
      simp only[zaA,b6];repeat' (first|refine ae (id:=14) (.range 21) 20 [3,6,8,9,11,13,14,15,17,18,19] ?_|intro hc|refine xyZ ?_|refine aF ?_ ?_|((first|refine' LQ ?zh rfl ?_|refine' bP rfl rfl rfl ?zh ?_|refine' bk rfl rfl ?zh ?_);case zh=>intro F';first|exact bp rfl rfl iI (by first|assumption|omega|decide|rfl)|exact bH rfl rfl iI (by first|assumption|omega|decide|rfl)|exact zba rfl rfl iI iI (by first|assumption|omega))|refine bT λg=> ?_|refine zgu λg=> ?_|(refine' dP ?zh rfl rfl ?_;(case zh=>exact dB ({f with bytes:=f.bytes.take q}:Fl) rfl rfl iI iI iI rfl zp rfl);intro g)|fail)
      refine aj (.inr rfl) rfl ⟨[],rfl,?_⟩;exact paL
     ·rw[eQ (λh=>Wa h.2)];simp only[zaA,b6];repeat' (first|intro hc|refine xyZ ?_|refine aF ?_ ?_|refine zw2 ?_|refine bT λg=> ?_|refine zw0 λg=> ?_)
      refine aj (.inr rfl) rfl ⟨[],rfl,?_⟩;exact paL
    ·rw[eQ (λh=>k7 h.1)];simp only[zaA,b6];repeat' (first|intro hc|refine xyZ ?_|refine aF ?_ ?_|refine zw4 ?_|refine bT λg=> ?_|refine zw0 λg=> ?_)
     refine aj (.inr rfl) rfl ⟨[],rfl,?_⟩;exact paL
end
section
open Go.ChangeShapes Go.WideShapes Go.ChangeAt Go.RowKit Go.Deep
theorem zeV:Iw 64 opC (λ_ o=>cM o.n):=λ{H enc w base spare held n c y} h=>by
 obtain⟨hl,ys,m,_,_,hf⟩:=sM Tryz.underlying64 (by kernel_rfl) (by kernel_rfl) h;obtain⟨v0,y0,e0,_,t0⟩:=hf 0 _ rfl;obtain⟨v1,y1,e1,_,t1⟩:=hf 1 _ rfl;obtain⟨v2,y2,e2,_,t2⟩:=hf 2 _ rfl;obtain⟨v3,y3,e3,_,t3⟩:=hf 3 _ rfl;obtain⟨v4,y4,e4,_,t4⟩:=hf 4 _ rfl;obtain⟨v5,y5,e5,_,t5⟩:=hf 5 _ rfl;obtain⟨a0,q0,_⟩:=vM Tryz.underlying3 t0;obtain⟨a1,q1,_⟩:=vM Tryz.underlying3 t1;obtain⟨a2,q2,_⟩:=vM Tryz.underlying3 t2;obtain⟨a3,q3,k3⟩:=vM Tryz.underlying3 t3;obtain⟨a4,q4,_⟩:=Jz Tryz.underlying4 t4;obtain⟨a5,q5,_⟩:=Au Tryz.underlying9 t5;refine⟨⟨a0,a1,a2,a3,a4,a5⟩,?_,k3⟩;simp only[Pa,M8,MR,ubp,ucA]at q0 q1 q2 q3 q4 q5;subst q0;subst q1;subst q2;subst q3;subst q4;subst q5;match c,hl with
 |[c0,c1,c2,c3,c4,c5],_=>simp at e0 e1 e2 e3 e4 e5;subst e0;subst e1;subst e2;subst e3;subst e4;subst e5;rfl
end
section
open Go.RowKit
section
variable {P:Program} {n:fT} {w0:World} {E:Env} {H:af}
theorem zfe {α:Type} {size:Nat} {f:α->List Value} {v:Value} {l:List α} {d:Option Tmp} {ty:TypeId} {pos:String} {after:Array Edge} {gu:Option (Nat×Bool)} {x:Operand} {t:TypeId} {k j s:Nat} {z:α} {vs:List Value} (hx:E.ev x=some (pX v size k j)) (hl:eX w0 H v α size f l) (ht:mN P t s) (hf:cY f size) (hz:l[k]? =some z) (hv:Dq (f z) j s=some vs):OpQ P n w0 ⟨d,.load t x,ty,pos,after,gu⟩ E H (.agg vs.toArray):=λa w se hs=>by
 obtain⟨hle,Mt⟩:=yh hv;have hlen:vs.length=s:=by rw[Mt];simp;omega
 have hk:k<l.length:=(az.1 hz).1;obtain⟨g,off,cap,rfl,hc⟩:=(hl.at_ w hs).cell k hk;have hzk:l[k]=z:=by have:=(az.1 hz).2;exact this
 have Xt:∀i u,vs[i]? =some u->w.cell? ((⟨g,off+(k*size+j),none⟩:Addr).add i)=some u:=λi u hu=>by
  have hi:i<s:=by rw[<-hlen];exact(az.1 hu).1
  rw[Mt,G3,jF hi,Lf]at hu;rw[add_lit];have:=hc (j+i) u (by rw[<-hf.eq z];exact(az.1 hu).1) (by rw[hzk];exact hu);rwa[show off+(k*size+j)+i=off+(k*size+(j+i)) by omega]
 have hd:=ht.ok;obtain⟨dd,sX⟩:∃dd,P.underlying t=some dd:=by
  exact pao
 rw[sX]at hd;have tJ:(isAgg t).run P w= .ok true w:=by
  exact paI
 obtain⟨i,hi,uZ⟩:=AU.1 ht.size;have Kf:(sizeOf t).run P w= .ok s w:=by simp[sizeOf,typeInfo,hi,uZ]
 have hr:=run_loadCells_list (P:=P) (w:=w) ⟨g,off+(k*size+j),none⟩ vs Xt;rw[hlen]at hr;simp[execOp,se.ev hx,pX,add_lit,Instr.loadAt,Instr.sureAddr,loadVar,tJ,Kf,hr]
end
theorem zcM {xs:List ES} {i p} (h:xs[i]? =some p):e9 (xs.drop i)=evO p*e9 (xs.drop (i+1)):=by
 obtain⟨h1,h2⟩:=az.1 h;rw[Sb h1,h2];rfl
attribute [local irreducible] WS LS OpQ y6 cn cv Spec bA aK
variable (w0:World)
theorem zc4 (xs ys:List ES) (hm:xs.map (·.1)=ys.map (·.1)) (va vb):Spec ucC w0 28 [va,vb] (rows 68 7 evC va xs*(e9 xs*(rows 68 7 evC vb ys*e9 ys))) (λ_:Unit=> .bool true) (λ_=>emp):=by
 refine eZ Tryz.func28 Tryz.ntmps28 λG=> ?_;simp only[aN,ad];have hlen:xs.length=ys.length:=by simpa using G2 List.length hm
 refine Ad va iI λMk _=> ?_;replace Mk:xs.length<=9223372036854775807:=WA Mk (by decide);repeat' (first|intro hc|refine xyZ ?_|refine aF ?_ ?_|refine zha ?_)
 refine aV (λkk τ=>∃(i:Nat),i+kk=xs.length/\τ=⟨[(5,.int .i64 (i:Int)),(1,vb),(0,va)],[],rows 68 7 evC va xs*(rows 68 7 evC vb ys*(e9 (xs.drop i)*(e9 (ys.drop i)*G)))⟩) ?_ ?_
 ·exact⟨xs.length,_,⟨0,by omega,rfl⟩,cG,rfl,by rw[ua0,ua0];exact ah⟩
 rintro kk τ ⟨i,qE,rfl⟩;rcases jP i xs.length with h|h
 ·have h1:(i:Int)<(xs.length:Int):=by omega
  have h2:i<ys.length:=by omega
  obtain⟨⟨e,s⟩,hp⟩:∃p,xs[i]? =some p:=⟨_,aX h⟩
  obtain⟨⟨e2,s2⟩,hq⟩:∃q,ys[i]? =some q:=⟨_,aX h2⟩
  obtain rfl:e=e2:=by
   have:=G2 (λx=>x[i]?) hm;simp only[zA,hp,hq,EL,Z9]at this;exact this
  rw[zcM hp,zcM hq];have p1:=ua w0 e.out (svV s) (svV s2);simp only[fp,svV,cT]at p1;unfold evO svV;simp only[cT,ad];repeat' (first|refine ag (id:=7) (.range 28) ?_|intro hc|refine xyZ ?_|refine aF ?_ ?_|((first|refine' LQ ?zh rfl ?_|refine' bP rfl rfl rfl ?zh ?_|refine' bk rfl rfl ?zh ?_|refine' zab rfl rfl rfl ?zh ?_);case zh=>intro F';first|exact bp rfl rfl iI (by first|assumption|omega|decide|rfl)|exact du rfl rfl iI (by first|assumption|omega|decide|rfl))|refine ae (id:=6) (.range 12) 10 [2,3,4,7,8,9] ?_|((first|refine' bP rfl rfl rfl ?zh ?_|refine' LQ ?zh rfl ?_);(case zh=>intro F';exact zfe rfl iI iI iI (by assumption) rfl))|refine cZ p1 λu1=> ?_)
  --tg
  exact⟨kk - 1,_,by omega,⟨i+1,by omega,rfl⟩,cG,rfl,ah⟩
 have h1:¬(i:Int)<(xs.length:Int):=by omega
 exact paN
end
end Go.Proofs.YtapoehkdnglahabGreat

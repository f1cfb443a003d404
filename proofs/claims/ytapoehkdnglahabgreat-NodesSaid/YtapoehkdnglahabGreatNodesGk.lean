/- A part of what Nodes needs. -/
import Derived.Test.YtapoehkdnglahabGreatNodesGj
set_option maxHeartbeats 16000000
set_option maxRecDepth 100000
set_option linter.unusedVariables false
set_option linter.unusedSimpArgs false
set_option linter.unusedSectionVars false
namespace Go.Proofs.YtapoehkdnglahabGreat
section
def seenAt (m:List (Rq×UInt64)) (r:Rq):UInt64:=(bX m r).getD 0
def pO (now:UInt64) (p:List (Rq×UInt64)×List Rq) (x:Rq):List (Rq×UInt64)×List Rq:=if now<seenAt p.1 x then(p.1,p.2++[x])else(gq p.1 x,p.2)
def dg (now:UInt64) (m:List (Rq×UInt64)) (l:List Rq):List (Rq×UInt64)×List Rq:=l.foldl (pO now) (m,[])
def pE (m:List (Rq×UInt64)) (l:List Rq) (i:Nat) (j:Nat):Nat:=if seenAt m (l.getD j ⟨0,0⟩)<seenAt m (l.getD i ⟨0,0⟩)then j else i
def ib (m:List (Rq×UInt64)) (l:List Rq) (k:Nat):Nat:=(List.range k).foldl (pE m l) 0
theorem nM (m:List (Rq×UInt64)) (l:List Rq) (k:Nat):ib m l (k+1)=pE m l (ib m l k) k:=by simp[ib,List.range_succ]
theorem nL (m:List (Rq×UInt64)) (l:List Rq):∀k,k≤l.length→0<l.length→ib m l k<l.length
 |0,_,h=>h
 |k+1,hk,h=>by
  have:=nL m l k (by omega) h
  rw[nM]
  unfold pE
  split<;>omega
def Nd.aT (s:Nd) (r:Rq):Nd:=
 let p:=dg s.now s.seen s.order
 let m:=bY p.1 r (s.now+1280)
 let l:=p.2++[r]
 if l.length≤16 then {s with seen:=m,order:=l}else
 let i:=ib m l l.length
 {s with seen:=gq m (l.getD i ⟨0,0⟩),order:=l.take i++l.drop (i+1)}
theorem oY (now:UInt64) (m:List (Rq×UInt64)) (l:List Rq) (x:Rq):dg now m (l++[x])=pO now (dg now m l) x:=by simp[dg]
theorem mJ (now:UInt64) (m:List (Rq×UInt64)) (l:List Rq):(dg now m l).2.length≤l.length:=by
 induction l using eE with
 |nil=>simp[dg]
 |snoc l x ih=>
  rw[oY]
  unfold pO
  split<;>simp<;>omega
def Nd.ir (s:Nd):UInt64:=s.now+3000
def Ln.bj (dest seq:UInt32) (aH:Int) (next:UInt32) (e:UInt64):Ln:=⟨dest,seq,aH,next,false,e,[]⟩
def Nd.answer (s:Nd) (p:Pk):Nd:=match bR s.ls p.from_ s.now with
 |some b=>s.send b.next {p with bK:=8,kind:=2}
 |none=>s.drop 3
def xp (p:Pk):Int:=min (p.aH+1) 255
def Nd.gR (s:Nd) (p:Pk):Nd:=
 if p.bK=1 then s.drop 4 else
 match dG s.ls p.dest with
 |some l=>s.send 0 {p with bK:=p.bK - 1,aH:=xp p,ak:=max p.ak l.seq,unknown:=false}
 |none=>s.send 0 {p with bK:=p.bK - 1,aH:=xp p}
def Nd.Jd (s:Nd) (p:Pk) (x:Ln):Nd:=
 Nd.answer {s with ls:=gF (match bR s.ls p.from_ s.now with|some b=>gF s.ls p.dest b.next|none=>s.ls) p.from_ x.next} ⟨0,0,x.aH,false,0,p.dest,x.seq,p.from_,0,(x.cB - s.now).toUInt32,[],[]⟩
def Nd.jy (s:Nd) (p:Pk):Nd:=
 if p.dest=s.self then
  let q:=if p.unknown then s.seq else max s.seq p.ak
  Nd.answer {s with seq:=q} ⟨0,0,0,false,0,p.dest,q,p.from_,0,6000,[],[]⟩
 else match bR s.ls p.dest s.now with
 |some x=>if p.unknown=true∨p.ak≤x.seq then s.Jd p x else s.gR p
 |none=>s.gR p
def Nd.Sg (s:Nd) (src:UInt32) (p:Pk):Int×List Ln:=dI s.self s.ls (Ln.bj p.from_ p.av (xp p) src s.ir)
def Nd.qd (s:Nd) (src:UInt32) (p:Pk):Nd:=
 if p.from_=s.self∨s.now<seenAt s.seen ⟨p.from_,p.id⟩then s.drop 1 else
 let s1:=s.aT ⟨p.from_,p.id⟩
 let u:=s1.Sg src p
 if u.1=4 then Nd.drop {s1 with ls:=u.2} 2 else
 Nd.jy {s1 with ls:=if u.1=3 then iY u.2 p.from_ s1.ir else u.2} p
def Nd.lost (s:Nd) (l:List (UInt32×UInt32)):Nd:=if 0<l.length then s.send 0 (Pk.gI l)else s
def lR (src:UInt32) (a:List Ln×List (UInt32×UInt32)×Bool) (l:UInt32×UInt32):List Ln×List (UInt32×UInt32)×Bool:=
 (iS a.1 src l.1 l.2,if(fR a.1 src l.1&&decide (0<((dG a.1 l.1).getD Ln.zero).before.length))=true then a.2.1++[(l.1,eJ (iS a.1 src l.1 l.2) l.1)]else a.2.1,a.2.2||fR a.1 src l.1)
def bV (src:UInt32) (ls:List Ln) (l:List (UInt32×UInt32)):List Ln×List (UInt32×UInt32)×Bool:=l.foldl (lR src) (ls,[],false)
def Nd.xC (s:Nd) (src:UInt32) (p:Pk):Nd:=
 let a:=bV src s.ls p.lost
 let s1:=Nd.lost {s with ls:=a.1} a.2.1
 if a.2.2=true then s1 else s1.drop 7
def Nd.cj (s:Nd) (x:UInt32×cP):Nd:={s with out:={s.out with cj:=s.out.cj++[x]}}
def Nd.ov (s:Nd) (src:UInt32) (p:Pk):Nd:=
 if p.dest=s.self then s.cj (p.from_,p.ar)else
 if p.bK=1 then s.drop 4 else
 match bR s.ls p.dest s.now with
 |none=>Nd.tell {s.drop 3 with ls:=ia s.ls p.dest} src p.dest (eJ (ia s.ls p.dest) p.dest)
 |some x=>{s.send x.next {p with bK:=p.bK - 1}with ls:=iY (iY s.ls p.dest s.ir) p.from_ s.ir}
def Nd.brk (s:Nd) (nb:UInt32):Nd:=Nd.lost {s with ls:=nH nb s.ls} (jh nb (aQ (aO s.ls)) s.ls)
def Nd.hand (s:Nd) (dest:UInt32) (text:cP):Nd:=match bR s.ls dest s.now with
 |none=>s
 |some x=>{Nd.send {s with ff:=s.ff+1} x.next ⟨8,9,0,false,s.ff+1,dest,0,s.self,0,0,[],text⟩with ls:=iY s.ls dest s.ir}
def eS (ss:List Sr) (d:UInt32):Option Nat:=ss.findIdx? fun x=>x.dest=d
def nP (ss:List Sr) (k:Int):Option Nat:=ss.findIdx? fun x=>x.name=k
def Nd.texts (s:Nd) (d:UInt32):List cP:=(bX s.wait d).getD []
def Nd.stop (s:Nd) (k:Nat):Nd:={s with bu:=s.bu.eraseIdx k}
def Nd.bg (s:Nd) (dest:UInt32) (l:List cP):Nd:=l.foldl (fun s t=>s.hand dest t) s
def Nd.cX (s:Nd) (dest:UInt32):Nd:={s with wait:=gq s.wait dest}
def Nd.flush (s:Nd) (dest:UInt32):Nd:=
 let s1:=(s.bg dest (s.texts dest)).cX dest
 match eS s1.bu dest with
 |some k=>s1.stop k
 |none=>s1
def dJ (now:UInt64) (l:List UInt64):Nat:=(l.filter fun a=>now<a+1000).length
def Nd.arm (s:Nd) (k:Int) (w:UInt64):Nd:={s with bI:=s.bI++[⟨s.now+w,s.last+1,k⟩],last:=s.last+1}
def Nd.cH (s:Nd) (k:Nat) (b:Bool):Nd:={s with bu:=s.bu.modify k fun x=>{x with out:=b}}
def ik (l:List UInt64):List UInt64:=if 5<l.length then l.drop 1 else l
def iL (x:Sr):UInt64:=UInt64.ofInt (80*(x.bK+2)*2 ^ x.aU.toNat)
def Nd.gE (s:Nd) (x:Sr):Nd:=
 let s1:=Nd.note {s with seq:=bS s.seq}
 let s2:={s1 with ids:=s1.ids+1,aP:=ik (s1.aP++[s1.now])}
 let s3:=s2.send 0 ⟨x.bK,1,0,(dG s2.ls x.dest).isNone,s2.ids,x.dest,eJ s2.ls x.dest,s2.self,s2.seq,0,[],[]⟩
 s3.aT ⟨s3.self,s3.ids⟩
def Nd.ask (s:Nd) (k:Nat) (x:Sr):Nd:=
 if s.now<s.cd then((s.cH k false).drop 8).arm x.name 1000 else
 if 5≤dJ s.now s.aP then((s.cH k false).drop 9).arm x.name 1000 else
 ((s.cH k true).gE x).arm x.name (iL x)
def Sr.iN (x:Sr):Option Sr:=
 if x.bK<5 then some {x with bK:=x.bK+2}else
 if x.bK<8 then some {x with bK:=8}else
 if x.aU<2 then some {x with aU:=x.aU+1}else none
def Nd.dy (s:Nd) (n:Nat) (k:Int):Nd:={s with out:={s.out with dropped:=s.out.dropped++List.replicate n k}}
def Nd.again (s:Nd) (k:Nat) (x:Sr):Nd:=
 match bR s.ls x.dest s.now with
 |some _=>s.flush x.dest
 |none=>if x.out=true then match x.iN with
  |some y=>Nd.ask {s with bu:=s.bu.set k y} k y
  |none=>((s.dy (s.texts x.dest).length 5).cX x.dest).stop k
  else s.ask k x
def Nd.rep (s:Nd) (src:UInt32) (p:Pk):Nd:=
 if p.dest=s.self then s.drop 1 else
 let u:=dI s.self s.ls (Ln.bj p.dest p.ak (xp p) src (s.now+p.bD.toUInt64))
 let s1:={s with ls:=u.2}
 if u.1=4 then s1.drop 2 else
 if p.from_=s1.self then
  let s2:=if(bR s1.ls p.dest s1.now).isSome then s1.flush p.dest else s1
  if u.1=3 then s2.drop 7 else s2
 else match bR s1.ls p.from_ s1.now with
 |none=>if p.bK=1 then s1.drop 4 else s1.drop 3
 |some b=>if p.bK=1 then s1.drop 4 else {s1.send b.next {p with bK:=p.bK - 1,aH:=xp p}with ls:=iY (gF (gF s1.ls p.dest b.next) p.from_ src) p.from_ s1.ir}
def Nd.handle (s:Nd) (src:UInt32) (p:Pk):Nd:=
 if p.kind=1 then s.qd src p else if p.kind=2 then s.rep src p else if p.kind=3 then s.xC src p else s.ov src p
def Nd.mb (s:Nd) (now:UInt64) (src:UInt32) (f:cP):Nd:=match Pk.dec f with
 |none=>s.gQ now src f
 |some p=>if src=0∨src=s.self∨now<s.cd then s.gQ now src f else s.handle src p
def Nd.eC (s:Nd) (dest:UInt32):Nd:={s with names:=s.names+1,bu:=s.bu++[⟨dest,1,0,false,s.names+1⟩]}
def Nd.ea (s:Nd) (dest:UInt32) (text:cP):Nd:=
 if(bR s.ls dest s.now).isSome then s.hand dest text else
 let s1:=if(s.texts dest).length=4 then Nd.drop {s with wait:=bY s.wait dest ((s.texts dest).drop 1)} 6 else s
 let s2:={s1 with wait:=bY s1.wait dest (s1.texts dest++[text])}
 match eS s2.bu dest with
 |some _=>s2
 |none=>Nd.ask (s2.eC dest) s2.bu.length ⟨dest,1,0,false,s2.names+1⟩
def Nd.step (s:Nd) (now:UInt64):Option Nd:=match gN s.bI now s.bI.length with
 |none=>none
 |some i=>
  let s1:={s with bI:=s.bI.eraseIdx i}
  match nP s1.bu (cJ s.bI i).km with
  |some k=>match s1.bu[k]? with
   |some x=>some (s1.again k x)
   |none=>some s1
  |none=>some s1
def Nd.gT:Nat→Nd→UInt64→Nd
 |0,s,_=>s
 |f+1,s,now=>match s.step now with
  |some t=>t.gT f now
  |none=>s
end
section
open Go.RowKit
def yM (v:Value) (k:Nat):Value:=match v with
 | .slice A m c=> .slice A (min k m) (min k m)
 |v=>v
section
variable {P:Program} {n:fT} {w0:World} {E:Env} {D:List Deferred} {H F:af} {ops:Array Oper} {l':List Oper} {Q:Exit→St→Prop} {α:Type} {e:TypeId} {size:Nat} {f:α→List Value} {v u:Value} {l ys:List α}
variable {d:Option Tmp} {ty:TypeId} {pos:String} {after:Array Edge} {gu:Option (Nat×Bool)} {x y z:Operand}
theorem ur {t e2:TypeId} {q q2:IntKind} {i i2:Int} {k:Nat} (hx:E.ev x=some v) (hy:E.ev y=some (.int q i)) (hz:E.ev z=some (.int q2 i2)) (XJ:i2=i) (hl:eX w0 H v α size f l) (ht:eN P t (.slice e2)) (fP:GL P e2 size) (hi:fB i k) (hk:k≤l.length):
 cD P n w0 ⟨d,.slice t x none (some y) (some z),ty,pos,after,gu⟩ E H (yM v k):=fun a w s hs=>by
 subst XJ
 obtain⟨A,c,rfl,h1,h2⟩:=(hl.at_ w hs).form
 obtain⟨i0,uY,zq⟩:=Option.map_eq_some_iff.1 fP.eq
 obtain rfl:=hi.eq
 have FW:P.elem t=e2:=by simp[Program.elem,ht.eq]
 have xq:P.underlying t=some (.slice (P.elem t)):=by rw[ht.eq,FW]
 have hr:=run_slice_hm (P:=P) (w:=w) t A l.length c xq q q2 (k:Int) (k:Int) (by omega) (by omega) (by omega)
 have xl:min k l.length=k:=by omega
 have pF:(sizeOf e2).run P w= .ok size w:=by simp[sizeOf,typeInfo,uY,zq]
 rw[FW,pF]at hr
 have hA:(if k=0 then A else A.map (·.add (0*size)))=A:=by
  split
  ·rfl
  ·cases A with
   |none=>rfl
   |some a=>simp;unfold Addr.add;cases a;simp
 simp only[execOp,s.ev hx,s.ev hy,s.ev hz,Option.map_some,Option.map_none,run_sliceAt_slice w t _ _ _ _ xq,Sem.run_bind,hr,Result.andThen_ok,Sem.run_pure,Int.toNat_natCast,yM,xl,sliced,hA,Nat.sub_zero]
theorem aq.cut (k:Nat) (hk:k≤l.length) [h:dD H v α e size f l F] [hf:cY f size]:aq H (rows e size f (yM v k) (l.take k)*F):=by
 rw[h.eq]
 refine aq.star (fun x hx=> ?_) (aq.refl _)
 obtain⟨hlen,hx⟩:=hx
 have Eo:∀m:List α,(m.flatMap f).length=m.length*size:=by
  intro m
  induction m with
  |nil=>simp
  |cons a m ih=>simp[ih,hf.eq,Nat.succ_mul];omega
 refine⟨x,⟨Eo _,?_⟩,fun _ _ e=>e⟩
 have tK:(l.take k).length=k:=by simp;omega
 rcases hx with ⟨A,rfl,hn,Q9⟩|⟨g,off,cap,cur,fr,rfl,h1,h2,h3,h4,h5,h6⟩
 ·refine .inl ⟨A,by simp[yM,hn],by omega,Q9⟩
 ·have hle:k*size≤cap*size:=Nat.mul_le_mul_right _ (by omega)
  refine .inr ⟨g,off,k,cur,fr,by simp only[yM,tK,Nat.min_eq_left hk],by omega,by omega,by omega,?_,?_,h6⟩
  ·rw[tK]
   have e1:((l.take k).flatMap f)=(l.flatMap f).take (k*size):=by
    have:l.flatMap f=(l.take k).flatMap f++(l.drop k).flatMap f:=by rw[←List.flatMap_append,List.take_append_drop]
    rw[this,List.take_left' (by rw[Eo,tK])]
   rw[e1,←h4,List.take_take,Nat.min_eq_left (Nat.mul_le_mul_right _ hk)]
  ·exact fun i a b=>h5 i a (by omega)
theorem BG {t:TypeId} {bytes:Nat} (k j:Nat) (hk:k≤l.length) (hj:j≤l.length) (hu:u=cq size v j) (hx:E.ev x=some (yM v k)) (hy:E.ev y=some u) (hT:yt P t e size bytes) (hf:cY f size) (h1:∀z,∀c∈f z,c.oneCell'=true) (hn:l.length+l.length≤1000000) (uX:bytes≤1000) (hp:NeZero size):
 eM P n w0 ⟨d,.call ⟨.builtin .append,#[x,y],#[t,t]⟩,ty,pos,after,gu⟩ E (rows e size f v l) (fun v':Value=>v') (fun v'=>rows e size f v' (l.take k++l.drop j)):=fun G a w K Q s hs hK=>by
 subst hu
 have O3:Src P w size (l.drop j).length (cq size v j) ((l.drop j).flatMap f):=uN ((zN (w0:=w0) (H:=rows e size f v l*G) (v:=v) (f:=f) (l:=l) j).at_ w hs) hf.eq
 have fP:Sat w0 w (rows e size f (yM v k) (l.take k)*G):=(aq.cut (H:=rows e size f v l*G) (F:=G) k hk).sat hs
 have XT:(l.take k).length≤l.length:=by simp;omega
 have XS:(l.drop j).length≤l.length:=by simp
 refine sV hT (.inl hT.ht) x y rfl fP (s.ev hx) (s.ev hy) O3 (fun c hc=> ?_) (by simp only[maxLen];omega) ?_ fun v' w' eI=>hK v' w' ?_
 ·obtain⟨z,_,hz⟩:=List.mem_flatMap.1 hc;exact h1 z c hz
 ·have:((l.take k).length+(l.drop j).length)*bytes≤1000000*1000:=Nat.mul_le_mul (by omega) uX
  omega
 ·unfold rows
  rw[List.length_append,List.flatMap_append]
  exact eI
theorem BA {t:TypeId} {bytes:Nat} (k j:Nat) (hx:E.ev x=some (yM v k)) (hy:E.ev y=some (cq size v j)) (hl:dD H v α e size f l F) (hk:k≤l.length) (hj:j≤l.length) (hT:lj P t e size bytes) (hf:cY f size) (h1:∀z,∀c∈f z,c.oneCell'=true) (hn:l.length+l.length≤1000000) (uX:Nat.ble bytes 1000=true) (hp:NeZero size):
 cn P n w0 ⟨d,.call ⟨.builtin .append,#[x,y],#[t,t]⟩,ty,pos,after,gu⟩ E H (fun v':Value=>v') (fun v'=>rows e size f v' (l.take k++l.drop j)*F):=cn.mk' (BG k j hk hj rfl hx hy hT.out hf h1 hn (Nat.le_of_ble_eq_true uX) hp) hl.eq
end
end
section
open Go.RowKit
instance SA {P:Program} {t e:TypeId} [h:eN P t (.pointer e)]:dL P .eql t (.pointer none) (.pointer none) (.bool true):=⟨fun w=>by
 have hp:P.pointee t=e:=by simp[Program.pointee,h.eq]
 exact run_eql_pointer_nil (w:=w) t none (by rw[hp];exact h.eq),fun w _ _=>by rfl⟩
instance Td {P:Program} {t e:TypeId} [h:eN P t (.pointer e)]:dL P .neq t (.pointer none) (.pointer none) (.bool false):=⟨fun w=>by
 have hp:P.pointee t=e:=by simp[Program.pointee,h.eq]
 exact run_neq_pointer_nil (w:=w) t none (by rw[hp];exact h.eq),fun w _ _=>by rfl⟩
section
variable {P:Program} {n:fT} {w0:World} {E:Env} {D:List Deferred} {H F F1 F2:af} {Q:Exit→St→Prop} {l l':List Oper}
theorem GN {id:Nat} (t:Nat) (idx:List Nat) {g off:Nat} {bt:TypeId} {cs:List Value} (hs:iT P l idx (fun _=>false) 1000=true) (hl:jK l idx=some l') (hx:E.get t=some (ptr g off)) (hR:cZ H g bt cs F) (h:DL P n w0 l.toArray Q D (aK g bt cs) emp (fun _=>false) 1000 0 false l' E F):WS P n w0 (.region id l.toArray true) Q ⟨E,D,H⟩:=
 iK idx l' (aK g bt cs) emp F _ 1000 hs (by rw[aB];exact hR.eq) (gO hl) h
theorem nA {id:Nat} (t:Nat) (idx:List Nat) {g off:Nat} {bt:TypeId} {cs:List Value} (h:DL P n w0 l.toArray Q D (aK g bt cs) emp (fun _=>false) 1000 0 false l' E F) (hs:iT P l idx (fun _=>false) 1000=true:=by decide+kernel) (hl:jK l idx=some l':=by rfl) (hx:E.get t=some (ptr g off):=by rfl) (hR:cZ H g bt cs F:=by exact iI):WS P n w0 (.region id l.toArray true) Q ⟨E,D,H⟩:=GN t idx hs hl hx hR h
theorem GO {id:Nat} (t t2:Nat) (idx:List Nat) {g off g2 A5:Nat} {bt rJ:TypeId} {cs pV:List Value} (hs:iT P l idx (fun _=>false) 1000=true) (hl:jK l idx=some l') (hx:E.get t=some (ptr g off)) (qb:E.get t2=some (ptr g2 A5)) (hR:cZ H g bt cs F1) (Ca:cZ F1 g2 rJ pV F) (h:DL P n w0 l.toArray Q D (aK g bt cs*aK g2 rJ pV) emp (fun _=>false) 1000 0 false l' E F):WS P n w0 (.region id l.toArray true) Q ⟨E,D,H⟩:=
 iK idx l' (aK g bt cs*aK g2 rJ pV) emp F _ 1000 hs (by rw[aB,hR.eq,Ca.eq,ad]) (gO hl) h
theorem aE {id:Nat} (t t2:Nat) (idx:List Nat) {g off g2 A5:Nat} {bt rJ:TypeId} {cs pV:List Value} (h:DL P n w0 l.toArray Q D (aK g bt cs*aK g2 rJ pV) emp (fun _=>false) 1000 0 false l' E F) (hs:iT P l idx (fun _=>false) 1000=true:=by decide+kernel) (hl:jK l idx=some l':=by rfl) (hx:E.get t=some (ptr g off):=by rfl) (qb:E.get t2=some (ptr g2 A5):=by rfl) (hR:cZ H g bt cs F1:=by exact iI) (Ca:cZ F1 g2 rJ pV F:=by exact iI):WS P n w0 (.region id l.toArray true) Q ⟨E,D,H⟩:=GO t t2 idx hs hl hx qb hR Ca h
theorem bA.of {f:FuncId} {args:List Value} {X:af} {v:Value} (h:Spec P w0 f args X (fun _:Unit=>v) (fun _=>X)) (o:Own H X F):bA P w0 f args H v:=fun w hs=>by
 refine(h F w (hs.cast o.eq)).mono ?_
 rintro e w' ⟨_,he,eI⟩
 exact⟨he,eI.cast o.eq.symm⟩
theorem oC {ops:Array Oper} {R L F0 X:af} {f:FuncId} {args:List Value} {v:Value} {d:Nat} {xs:List Operand} {ts:Array TypeId} {ty:TypeId} {pos:String} {after:Array Edge} {B:Nat→Bool} {k cp:Nat} {l:List Oper} (hf:aA P f) (eB:E.mU xs=some args) (spec:Spec P w0 f args X (fun _:Unit=>v) (fun _=>X)) (ho:Own L X F0) (hd:Nat.blt d n.tmps=true)
 (h:DL P n w0 ops Q D R L B cp (k+1) false l ((d,v)::E) F):DL P n w0 ops Q D R L B cp k false (⟨some d,.call ⟨.value (.func f),xs.toArray,ts⟩,ty,pos,after,none⟩::l) E F:=
 M0 rfl rfl hd (fun F'=>LW hf eB (bA.of (F:=R*(F0*F')) spec ⟨by show R*(L*F')=_;rw[ho.eq,ad,aM]⟩)) h
end
section
variable {P:Program} {n:fT} {w0:World} {E:Env} {D:List Deferred} {H F:af} {d:Option Tmp} {t ty:TypeId} {pos:String} {after:Array Edge} {gu:Option (Nat×Bool)} {x y:Operand} {r kt et:Nat} {v u:Value} {κ ν:Type} [DecidableEq κ] {fk:κ→Value} {fv:ν→Value} {m:List (κ×ν)} {k:κ}
theorem fh {z:Value} {zs:List Value} (hx:E.ev x=some (.map (some r))) (hy:E.ev y=some v) (hl:jQ H r κ ν fk fv m F) (u6:hU fk v k) (hm:rp P t kt et) (hz:Zero P et z zs) (hk:ou P kt fk) (hu:tZ fv z (bX m k)=u):cD P n w0 ⟨d,.lookup t x y false,ty,pos,after,gu⟩ E H u:=hu▸wm hx hy hl u6 hm hz hk
end
end
section
open Go.RowKit
theorem KV (empty:Bool) (x y:Int) (w:World):(Instr.checkKey empty 10000 269 (.agg #[.int .u32 x,.int .u32 y])).run Tryz.prog w= .ok () w:=by
 have u4:=Tryz.underlying26
 have hS:=Tryz.underlying269
 have c2:=FL empty 9998
 rw[show(10000:Nat)=9999+1 from rfl]
 unfold Instr.checkKey
 go_simp
theorem PD (x y x' y':Int) (w:World):
 (Op.equal 269 (.agg #[.int .u32 x,.int .u32 y]) (.agg #[.int .u32 x',.int .u32 y'])).run Tryz.prog w= .ok (x==x'&&y==y') w:=by
 have u4:=Tryz.underlying26
 have hS:Tryz.prog.underlying 269=some (.struct (Tryz.prog.fieldsOf 269)):=by kernel_rfl
 have hp:Tryz.prog.stoodInHeld 269=false:=by kernel_rfl
 rw[show Op.equal 269=Op.equalIn (9999+1) 269 from rfl,run_equalIn_agg w 9999 269 _ _ hS hp]
 simp only[Program.fieldsOf,Tryz.underlying269]
 by_cases h1:x=x'<;>by_cases h2:y=y'<;>go_simp
instance:ou Tryz.prog 269 Bt:=Cr (fs:=Tryz.prog.fieldsOf 269) (by kernel_rfl) (fun _ a b w=>by
 have h:=PD (a.src.toNat:Int) (a.id.toNat:Int) (b.src.toNat:Int) (b.id.toNat:Int) w
 have e:(((a.src.toNat:Int)==(b.src.toNat:Int))&&((a.id.toNat:Int)==(b.id.toNat:Int)))=decide (a=b):=by
  rw[Bool.eq_iff_iff]
  simp only[Bool.and_eq_true,beq_iff_eq,decide_eq_true_eq]
  constructor
  ·intro ⟨h1,h2⟩
   have e1:a.src=b.src:=UInt32.toNat_inj.1 (by omega)
   have e2:a.id=b.id:=UInt32.toNat_inj.1 (by omega)
   cases a;cases b;simp_all
  ·rintro rfl;exact⟨rfl,rfl⟩
 rw[e]at h
 exact h) (fun empty k w=>KV empty _ _ w) (fun k=>by
 show Instr.sameBits (9999+1) (.agg #[u32 k.src,u32 k.id]) (.agg #[u32 k.src,u32 k.id])=true
 simp[Instr.sameBits,u32])
instance (v1 v2:Value) (a b:UInt32) [h1:ej v1 a] [h2:ej v2 b]:hU Bt (.agg #[v1,v2]) ⟨a,b⟩:=⟨by rw[h1.eq,h2.eq];rfl⟩
instance (k:Rq):hU Bt (.agg (sE k).toArray) k:=⟨rfl⟩
end
section
open Go.RowKit
theorem Spec.WE {P:Program} {w0:World} {f:FuncId} {args:List Value} {pre:af} {α:Type} {res:α→Value} {gn:Nat} {s:Nd} {h:α→NH} (hs:Spec P w0 f args pre res (fun x=>bG gn s (h x))):Spec P w0 f args pre res (fun _=>eD gn s):=fun G w hw=>(hs G w hw).mono fun e w' ⟨x,he,hx⟩=>⟨x,he,(aq.vi (h x) (aq.refl _)).sat hx⟩
theorem Spec.Vo {P:Program} {w0:World} {f:FuncId} {args:List Value} {pre:af} {α:Type} {res:α→Value} {gn:Nat} {s:Nd} {h:α→NH} {X:α→af} (hs:Spec P w0 f args pre res (fun x=>bG gn s (h x)*X x)):Spec P w0 f args pre res (fun x=>eD gn s*X x):=fun G w hw=>(hs G w hw).mono fun e w' ⟨x,he,hx⟩=>⟨x,he,by
 have h1:=(aq.vi (g:=gn) (s:=s) (F:=X x*G) (h x) (aq.of_eq (ad _ _ _))).sat hx
 exact h1.cast (ad _ _ _).symm⟩
structure Nd.Fit (s:Nd) (k:Nat):Prop where
 aJ:s.out.aJ.length+k≤800000
 cj:s.out.cj.length+k≤800000
 dropped:s.out.dropped.length+k≤800000
 aI:s.aI.length+9*k≤400000
 ay:s.out.ay.length+120*k≤800000
theorem Nd.Fit.le {s:Nd} {k m:Nat} (h:s.Fit k) (hm:m≤k):s.Fit m:=⟨by have:=h.aJ;omega,by have:=h.cj;omega,by have:=h.dropped;omega,by have:=h.aI;omega,by have:=h.ay;omega⟩
theorem Nd.Fit.send {s:Nd} {k:Nat} (h:s.Fit (k+1)) (to:UInt32) (p:Pk):(s.send to p).Fit k:=by
 obtain⟨a,b,c,d,e⟩:=h
 constructor<;>simp only[Nd.send,List.length_append,List.length_cons,List.length_nil]<;>omega
theorem Nd.Fit.drop {s:Nd} {k:Nat} (h:s.Fit (k+1)) (r:Int):(s.drop r).Fit k:=by
 obtain⟨a,b,c,d,e⟩:=h
 constructor<;>simp only[Nd.drop,List.length_append,List.length_cons,List.length_nil]<;>omega
theorem Nd.Fit.ls {s:Nd} {k:Nat} (h:s.Fit k) (l:List Ln):Nd.Fit {s with ls:=l} k:=⟨h.aJ,h.cj,h.dropped,h.aI,h.ay⟩
variable (w0:World)
theorem kf (gn:Nat) (s:Nd) (h:NH) (k:Int) (hf:s.Fit 1):Spec Tryz.prog w0 66 [ptr gn 0,.int .i64 k] (bG gn s h) (fun _:Value=> .tuple #[]) (fun _=>eD gn (s.drop k)):=(iE w0 gn s h k (by have:=hf.dropped;omega)).WE
theorem Bi (gn:Nat) (s:Nd) (h:NH) (to:UInt32) (p:Pk) (hp:p.Ok) (v:Value) (hv:v.oneCell'=true) (X:af) (hX:eX w0 X v (UInt32×UInt32) 2 bB p.lost) (hf:s.Fit 1):Spec Tryz.prog w0 117 [ptr gn 0,u32 to,p.val v] (bG gn s h*X) (fun _:Value=> .tuple #[]) (fun _=>eD gn (s.send to p)*X):=(lW w0 gn s h to p hp v hv X (hX:=hX) (by have:=hf.aJ;omega)).Vo
theorem MO (gn:Nat) (s:Nd) (h:NH) (to:UInt32) (p:Pk) (hp:p.Ok) (hl:p.lost=[]) (hf:s.Fit 1):Spec Tryz.prog w0 117 [ptr gn 0,u32 to,p.val (.slice none 0 0)] (bG gn s h) (fun _:Value=> .tuple #[]) (fun _=>eD gn (s.send to p)):=by
 have:=Bi w0 gn s h to p hp (.slice none 0 0) rfl emp (by rw[hl];exact mw _ _ _) hf
 simpa only[bl]using this
theorem Gm (gn:Nat) (s:Nd) (h:NH) (to:UInt32) (p:Pk) (hp:p.Ok) (hl:p.lost=[]) (hf:s.Fit 1):Spec Tryz.prog w0 117 [ptr gn 0,u32 to,p.val (.slice none 0 0)] (bG gn s h) (fun _:Value=> .tuple #[]) (fun vf=>bG gn (s.send to p) {h with vf:=vf}):=by
 have:=lW w0 gn s h to p hp (.slice none 0 0) rfl emp (hX:=by rw[hl];exact mw _ _ _) (by have:=hf.aJ;omega)
 simpa only[bl]using this
theorem PK (gn:Nat) (s:Nd) (h:NH) (to dest seq:UInt32) (hf:s.Fit 1):Spec Tryz.prog w0 68 [ptr gn 0,u32 to,u32 dest,u32 seq] (bG gn s h) (fun _:Value=> .tuple #[]) (fun _=>eD gn (s.tell to dest seq)):=(zV w0 gn s h to dest seq (by have:=hf.aJ;omega)).WE
attribute [local irreducible] WS LS cD eM cn cv Spec bA aK
theorem pQ (gn:Nat) (s:Nd) (h:NH):Spec Tryz.prog w0 172 [ptr gn 0] (aK gn 159 (bb 1 s h s.out)) (fun _:Unit=>u64 s.ir) (fun _=>aK gn 159 (bb 1 s h s.out)):=by
 refine Spec.enter Tryz.func172 rfl Tryz.ntmps172 rfl fun G=> ?_
 simp only[aN,bb,Nd.ir]
 repeat' (first|(refine ab ?_;intro K hK)|(refine hK _ ?_;clear hK K)|refine ax ?_|refine az ?_|((refine' LQ ?zh rfl ?_);case zh=>intro F';exact bE rfl rfl iI)|fail)
 exact aC (.inl rfl) rfl rfl ⟨(),rfl,ah⟩
end
section
open Go.RowKit
section
variable {κ ν α:Type} [DecidableEq κ]
def kO (key:α→κ) (bs:List ν) (ss:List α):List (κ×ν):=List.zipWith (fun b s=>(key s,b)) bs ss
def dK (key:α→κ):List α→κ→Option Nat
 |[],_=>none
 |x::r,d=>if key x=d then some 0 else(dK key r d).map (·+1)
variable {key:α→κ}
theorem fQ:∀{ss:List α} {d:κ} {k:Nat},dK key ss d=some k→∃x,ss[k]? =some x∧key x=d
 |[],_,_,h=>by cases h
 |x::r,d,k,h=>by
  simp only[dK]at h
  split at h
  ·rename_i e;cases h;exact⟨x,rfl,e⟩
  ·cases hr:dK key r d with
   |none=>rw[hr]at h;cases h
   |some j=>rw[hr]at h;cases h;obtain⟨y,h1,h2⟩:=fQ hr;exact⟨y,by simpa using h1,h2⟩
theorem qJ:∀{ss:List α} {d:κ},dK key ss d=none↔∀x∈ss,key x≠d
 |[],_=>by simp[dK]
 |x::r,d=>by
  simp only[dK]
  split
  ·rename_i e;simp[e]
  ·rename_i e
   rw[Option.map_eq_none_iff,qJ]
   simp[e]
theorem xw:∀{ss:List α} {k:Nat} {x:α},(ss.map key).Nodup→ss[k]? =some x→dK key ss (key x)=some k
 |[],_,_,_,h=>by simp at h
 |y::r,0,x,_,h=>by simp at h;subst h;simp[dK]
 |y::r,k+1,x,hn,h=>by
  rw[List.map_cons,List.nodup_cons]at hn
  have hx:r[k]? =some x:=by simpa using h
  have ih:=xw hn.2 hx
  simp only[dK]
  rw[if_neg (fun e=>hn.1 (by rw[e];exact List.mem_map_of_mem (List.mem_of_getElem? hx))),ih];rfl
theorem jx:∀(bs:List ν) (ss:List α) (d:κ),bs.length=ss.length→dT (kO key bs ss) d=dK key ss d
 |[],[],_,_=>rfl
 |b::bs,s::ss,d,h=>by
  have ih:=jx bs ss d (by simpa using h)
  show(if key s=d then some 0 else(dT (kO key bs ss) d).map (·+1))=_
  rw[ih];rfl
 |[],_::_,_,h=>by simp at h
 |_::_,[],_,h=>by simp at h
theorem Li {bs:List ν} {ss:List α} {k:Nat} {b:ν} {x:α} (hb:bs[k]? =some b) (hx:ss[k]? =some x):(kO key bs ss)[k]? =some (key x,b):=by
 simp[kO,List.getElem?_zipWith,hb,hx]
theorem iD {bs:List ν} {ss:List α} {d:κ} {k:Nat} {b:ν} (hl:bs.length=ss.length) (hk:dK key ss d=some k) (hb:bs[k]? =some b):bX (kO key bs ss) d=some b:=by
 obtain⟨x,hx,_⟩:=fQ hk
 unfold bX
 rw[jx bs ss d hl,hk]
 simp[Li hb hx]
theorem iC {bs:List ν} {ss:List α} {d:κ} (hl:bs.length=ss.length) (hk:dK key ss d=none):bX (kO key bs ss) d=none:=by
 unfold bX
 rw[jx bs ss d hl,hk]
theorem Fs (bs:List ν) (ss:List α) (k:Nat):(kO key bs ss).eraseIdx k=kO key (bs.eraseIdx k) (ss.eraseIdx k):=by
 induction bs generalizing ss k with
 |nil=>simp[kO]
 |cons b bs ih=>
  cases ss with
  |nil=>simp[kO]
  |cons s ss=>
   cases k with
   |zero=>rfl
   |succ k=>
    have:=ih ss k
    simp only[kO,List.zipWith_cons_cons,List.eraseIdx_cons_succ]at this ⊢
    rw[this]
theorem tQ {bs:List ν} {ss:List α} {d:κ} {k:Nat} (hl:bs.length=ss.length) (hk:dK key ss d=some k):gq (kO key bs ss) d=kO key (bs.eraseIdx k) (ss.eraseIdx k):=by
 unfold gq
 rw[jx bs ss d hl,hk]
 exact Fs _ _ _
theorem xE {bs:List ν} {ss:List α} {d:κ} (hl:bs.length=ss.length) (hk:dK key ss d=none):gq (kO key bs ss) d=kO key bs ss:=by
 unfold gq
 rw[jx bs ss d hl,hk]
theorem lV {bs:List ν} {ss:List α} {d:κ} (b:ν) (x:α) (hx:key x=d) (hl:bs.length=ss.length) (hk:dK key ss d=none):bY (kO key bs ss) d b=kO key (bs++[b]) (ss++[x]):=by
 unfold bY
 rw[jx bs ss d hl,hk]
 simp only[kO]
 rw[List.zipWith_append hl,←hx];rfl
theorem xI {bs:List ν} {ss:List α} {d:κ} {k:Nat} (b:ν) (x:α) (hx:key x=d) (hl:bs.length=ss.length) (hk:dK key ss d=some k):bY (kO key bs ss) d b=kO key (bs.set k b) (ss.set k x):=by
 unfold bY
 rw[jx bs ss d hl,hk]
 obtain⟨y,hy,hd⟩:=fQ hk
 have bW:=(List.getElem?_eq_some_iff.1 hy).1
 apply List.ext_getElem?
 intro j
 simp only[kO,List.getElem?_zipWith,List.getElem?_set,List.length_zipWith]
 by_cases e:k=j
 ·subst e;simp[bW,hl,hx]
 ·simp[e]
theorem sW {bs:List ν} {ss:List α} {k:Nat} {x y:α} (hx:ss[k]? =some x) (hk:key y=key x):kO key bs (ss.set k y)=kO key bs ss:=by
 apply List.ext_getElem?
 intro j
 simp only[kO,List.getElem?_zipWith,List.getElem?_set]
 by_cases e:k=j
 ·subst e
  have bW:=(List.getElem?_eq_some_iff.1 hx).1
  simp only[if_true,bW,hx]
  cases bs[k]? <;>simp[hk]
 ·simp[e]
def qY (p:ν→α→af):List ν→List α→af
 |b::bs,s::ss=>p b s*qY p bs ss
 |_,_=>emp
variable {p:ν→α→af}
theorem lE (p:ν→α→af):∀{bs:List ν} {ss:List α} {k:Nat} {b:ν} {x:α},bs[k]? =some b→ss[k]? =some x→
 ∃F,qY p bs ss=p b x*F∧(∀b' x',qY p (bs.set k b') (ss.set k x')=p b' x'*F)∧qY p (bs.eraseIdx k) (ss.eraseIdx k)=F
 |b0::bs,s0::ss,0,b,x,hb,hx=>by
  simp at hb hx;subst hb;subst hx
  exact⟨qY p bs ss,rfl,fun _ _=>rfl,rfl⟩
 |b0::bs,s0::ss,k+1,b,x,hb,hx=>by
  obtain⟨F,h1,h2,h3⟩:=lE p (bs:=bs) (ss:=ss) (k:=k) (by simpa using hb) (by simpa using hx)
  exact⟨p b0 s0*F,by rw[qY,h1,aM],fun b' x'=>by rw[List.set_cons_succ,List.set_cons_succ,qY,h2,aM],by rw[List.eraseIdx_cons_succ,List.eraseIdx_cons_succ,qY,h3]⟩
 |[],_,_,_,_,hb,_=>by simp at hb
 |_::_,[],_,_,_,_,hl=>by simp at hl
theorem um:∀{bs:List ν} {ss:List α} (b:ν) (x:α),bs.length=ss.length→qY p (bs++[b]) (ss++[x])=p b x*qY p bs ss
 |[],[],b,x,_=>rfl
 |b0::bs,s0::ss,b,x,h=>by
  show p b0 s0*qY p (bs++[b]) (ss++[x])=_
  rw[um b x (by simpa using h),aM];rfl
 |[],_::_,_,_,h=>by simp at h
 |_::_,[],_,_,h=>by simp at h
end
theorem pa (ss:List Sr) (d:UInt32):eS ss d=dK (·.dest) ss d:=by
 unfold eS
 induction ss with
 |nil=>rfl
 |cons x r ih=>rw[List.findIdx?_cons];simp only[dK,decide_eq_true_eq];rw[ih]
theorem CO (ss:List Sr) (d:Int):nP ss d=dK (·.name) ss d:=by
 unfold nP
 induction ss with
 |nil=>rfl
 |cons x r ih=>rw[List.findIdx?_cons];simp only[dK,decide_eq_true_eq];rw[ih]
theorem Pz (bs:List Nat) (ss:List Sr):nR bs ss=kO (·.dest) bs ss:=rfl
theorem Pb (bs:List Nat) (ss:List Sr):oR bs ss=kO (·.name) bs ss:=rfl
def Tj (g:Nat) (b:Nat) (s:Sr):af:=aK b 247 (oB g b s)
theorem uk (g:Nat):∀(bs:List Nat) (ss:List Sr),Dn g bs ss=qY (Tj g) bs ss
 |[],[]=>rfl
 |[],_::_=>rfl
 |_::_,[]=>rfl
 |b::bs,s::ss=>by unfold Dn qY;rw[uk g bs ss];rfl
def Sq (v:Option Addr×Nat×Nat) (w:UInt32×List cP):af:=rows 9 1 jk (cT v) w.2
theorem j3:∀(vs:List (Option Addr×Nat×Nat)) (ws:List (UInt32×List cP)),n5 vs ws=qY Sq vs ws
 |[],[]=>rfl
 |[],_::_=>rfl
 |_::_,[]=>rfl
 |v::vs,w::ws=>by unfold n5 qY;rw[j3 vs ws];rfl
theorem AQ (ws:List (UInt32×List cP)) (d:UInt32):bX ws d=((dK (·.1) ws d).bind (ws[·]?)).map (·.2):=by
 have:∀ws:List (UInt32×List cP),dT ws d=dK (·.1) ws d:=fun ws=>by
  induction ws with
  |nil=>rfl
  |cons x r ih=>simp only[dT,dK];rw[ih]
 unfold bX
 rw[this]
 cases hk:dK (·.1) ws d with
 |none=>rfl
 |some k=>
  obtain⟨x,hx,_⟩:=fQ hk
  simp[hx]
end
section
open Go.RowKit
theorem pR {g:Nat} {bs:List Nat} {ss:List Sr} (h:bs.length=ss.length):nZ g bs ss=Dn g bs ss:=by unfold nZ;rw[qQ h,aB]
theorem eW {r:Nat} {vs:List (Option Addr×Nat×Nat)} {ws:List (UInt32×List cP)} (h:vs.length=ws.length):mA r vs ws=mp u32 cT r (jA vs ws)*n5 vs ws:=by unfold mA;rw[qQ h,aB]
theorem mc {P:Program} {n:fT} {w0:World} {E:Env} {D:List Deferred} {F:af} {c:Code} {Q:Exit→St→Prop} {mu:Int} {g:Nat} {s:Nd} {h:NH} (hw:h.sb.length=s.bu.length→h.wv.length=s.wait.length→WS P n w0 c Q ⟨E,D,aY mu g s h*F⟩):WS P n w0 c Q ⟨E,D,aY mu g s h*F⟩:=fun a w gd=>by
 have e:aY mu g s h*F=pure' (h.sb.length=s.bu.length)*(pure' (h.wv.length=s.wait.length)*((aK g 159 (bb mu s h s.out)*(rows 28 3 Rec.cells h.vr s.aI*(mp u32 u32 h.rh s.held*(dR h.tb s.self s.ls*(cw h s.out*(mp Bt u64 h.rs s.seen*(rows 269 2 sE h.vo s.order*(mp u32 cT h.rw (jA h.wv s.wait)*n5 h.wv s.wait*(mp u32 gw h.rq (nR h.sb s.bu)*(mp i64 gw h.ri (oR h.sb s.bu)*(Dn g h.sb s.bu*(iA h.cb h.cr s.last s.bI*rows 24 1 eL h.vs s.aP))))))))))))*F)):=by
  unfold aY ba eu mA nZ
  ac_rfl
 obtain⟨h1,hs⟩:=(gd.sat.cast e).pure
 exact hw h1 hs.pure.1 a w gd
structure l6 (s:Nd):Prop where
 aO:(s.bu.map (·.dest)).Nodup
 names:(s.bu.map (·.name)).Nodup
 each:∀x∈s.bu,0≤x.bK∧x.bK≤8∧0≤x.aU∧x.aU≤2∧x.name≤s.names
theorem l6.dest {s:Nd} (h:l6 s) {k:Nat} {x:Sr} (hx:s.bu[k]? =some x):dK (·.dest) s.bu x.dest=some k:=xw (key:=fun x:Sr=>x.dest) h.aO hx
theorem l6.name {s:Nd} (h:l6 s) {k:Nat} {x:Sr} (hx:s.bu[k]? =some x):dK (·.name) s.bu x.name=some k:=xw (key:=fun x:Sr=>x.name) h.names hx
theorem wR {now:UInt64} {l:List UInt64} {j:Nat} {a:UInt64} (h:l[j]? =some a):dJ now (l.take (j+1))=dJ now (l.take j)+(if now<a+1000 then 1 else 0):=by
 rw[List.take_add_one,h,Option.toList_some]
 unfold dJ
 rw[List.filter_append,List.length_append]
 by_cases hc:now<a+1000
 ·rw[if_pos hc,List.filter_cons,if_pos (decide_eq_true hc)];rfl
 ·rw[if_neg hc,List.filter_cons,if_neg (by simpa using hc)];rfl
theorem rK (now:UInt64) (l:List UInt64):dJ now l≤l.length:=List.length_filter_le _ _
attribute [local irreducible] WS LS cD eM cn cv Spec bA aK
variable (w0:World)
theorem G0 (gn:Nat) (s:Nd) (h:NH) (hl:s.aP.length≤1000):Spec Tryz.prog w0 226 [ptr gn 0] (aK gn 159 (bb 1 s h s.out)*rows 24 1 eL h.vs s.aP) (fun _:Unit=> .bool (decide (5≤dJ s.now s.aP))) (fun _=>aK gn 159 (bb 1 s h s.out)*rows 24 1 eL h.vs s.aP):=by
 refine Spec.enter Tryz.func226 rfl Tryz.ntmps226 rfl fun G=> ?_
 obtain⟨vs,Mt⟩:∃v,v=h.vs:=⟨_,rfl⟩
 rw[←Mt]
 refine jl vs iI fun A cap hv=> ?_
 rw[Mt]
 rw[Mt]at hv
 simp only[aN,bb,hv]
 repeat' (first|(refine ab ?_;intro K hK)|(refine hK _ ?_;clear hK K)|refine ax ?_|refine az ?_)
 refine aV (fun k τ=>∃j:Nat,j+k=s.aP.length∧τ=⟨[(11,.int .i64 (j:Int)),(10,.int .i64 (s.aP.length:Int)),(9,.slice A s.aP.length cap),(3,.int .i64 (dJ s.now (s.aP.take j):Int)),(0,ptr gn 0)],[],aK gn 159 (bb 1 s h s.out)*(rows 24 1 eL (.slice A s.aP.length cap) s.aP*G)⟩) ?_ ?_
 ·exact⟨s.aP.length,_,⟨0,by omega,rfl⟩,cG,rfl,by simp only[bb,hv];exact ah⟩
 ·rintro k τ ⟨j,ym,rfl⟩
  simp only[bb,hv]
  rcases Nat.lt_or_ge j s.aP.length with bW|kQ
  ·obtain⟨z,hz⟩:∃z,s.aP[j]? =some z:=⟨_,List.getElem?_eq_getElem bW⟩
   have hb:=wR (now:=s.now) hz
   have yl:=rK s.now (s.aP.take j)
   rw[List.length_take]at yl
   generalize dJ s.now (s.aP.take j)=q at*
   by_cases hc:s.now<z+1000
   ·rw[if_pos hc]at hb
    repeat' (first|(refine ab ?_;intro K hK)|(refine hK _ ?_;clear hK K)|refine ax ?_|(refine aF ?_ ?_<;>intro hc<;>(try simp only[cS]at hc)<;>(try exact aG))|refine aX ?_|refine az ?_|((refine' LQ ?zh rfl ?_);case zh=>intro F';exact bE rfl rfl iI)|fail)
    exact⟨k - 1,_,by omega,⟨j+1,by omega,rfl⟩,⟨rfl,rfl,rfl,by rw[hb];rfl,rfl,trivial⟩,rfl,by simp only[bb,hv];exact ah⟩
   ·rw[if_neg hc]at hb
    repeat' (first|(refine ab ?_;intro K hK)|(refine hK _ ?_;clear hK K)|refine ax ?_|(refine aF ?_ ?_<;>intro hc<;>(try simp only[cS]at hc)<;>(try exact aG))|refine aX ?_|refine az ?_|((refine' LQ ?zh rfl ?_);case zh=>intro F';exact bE rfl rfl iI)|fail)
    exact⟨k - 1,_,by omega,⟨j+1,by omega,rfl⟩,⟨rfl,rfl,rfl,by rw[hb];rfl,rfl,trivial⟩,rfl,by simp only[bb,hv];exact ah⟩
  ·obtain rfl:j=s.aP.length:=by omega
   rw[List.take_of_length_le (Nat.le_refl _)]
   by_cases hc:(5:Int)≤(dJ s.now s.aP:Int)
   ·repeat' (first|(refine ab ?_;intro K hK)|(refine hK _ ?_;clear hK K)|refine ax ?_|(refine aF ?_ ?_<;>intro hc<;>(try simp only[cS]at hc)<;>(try exact aG))|refine aX ?_|refine az ?_)
    exact aC (.inl rfl) rfl rfl ⟨(),by rw[decide_eq_true (by omega)],ah⟩
   ·repeat' (first|(refine ab ?_;intro K hK)|(refine hK _ ?_;clear hK K)|refine ax ?_|(refine aF ?_ ?_<;>intro hc<;>(try simp only[cS]at hc)<;>(try exact aG))|refine aX ?_|refine az ?_)
    exact aC (.inl rfl) rfl rfl ⟨(),by rw[decide_eq_false (by omega)],ah⟩
theorem AG (gn b:Nat) (x:Sr) (h:0≤x.bK∧x.bK≤8∧0≤x.aU∧x.aU≤2):Spec Tryz.prog w0 225 [ptr b 0] (aK b 247 (oB gn b x)) (fun _:Unit=> .bool x.iN.isSome) (fun _=>aK b 247 (oB gn b (x.iN.getD x))):=by
 refine Spec.enter Tryz.func225 rfl Tryz.ntmps225 rfl fun G=> ?_
 simp only[aN,oB]
 unfold Sr.iN
 by_cases h1:x.bK<5
 ·simp only[if_pos h1,Option.isSome_some,Option.getD_some]
  repeat' (first|(refine ab ?_;intro K hK)|(refine hK _ ?_;clear hK K)|refine ax ?_|(refine aF ?_ ?_<;>intro hc<;>(try simp only[cS]at hc)<;>(try exact aG))|refine aX ?_|refine az ?_|(refine bQ ?_;intro g))
  exact aC (.inl rfl) rfl rfl ⟨(),rfl,ah⟩
 ·simp only[if_neg h1]
  by_cases h2:x.bK<8
  ·simp only[if_pos h2,Option.isSome_some,Option.getD_some]
   repeat' (first|(refine ab ?_;intro K hK)|(refine hK _ ?_;clear hK K)|refine ax ?_|(refine aF ?_ ?_<;>intro hc<;>(try simp only[cS]at hc)<;>(try exact aG))|refine aX ?_|refine az ?_|(refine bQ ?_;intro g))
   exact aC (.inl rfl) rfl rfl ⟨(),rfl,ah⟩
  ·simp only[if_neg h2]
   by_cases h3:x.aU<2
   ·simp only[if_pos h3,Option.isSome_some,Option.getD_some]
    repeat' (first|(refine ab ?_;intro K hK)|(refine hK _ ?_;clear hK K)|refine ax ?_|(refine aF ?_ ?_<;>intro hc<;>(try simp only[cS]at hc)<;>(try exact aG))|refine aX ?_|refine az ?_|(refine bQ ?_;intro g))
    exact aC (.inl rfl) rfl rfl ⟨(),rfl,ah⟩
   ·simp only[if_neg h3,Option.isSome_none,Option.getD_none]
    repeat' (first|(refine ab ?_;intro K hK)|(refine hK _ ?_;clear hK K)|refine ax ?_|(refine aF ?_ ?_<;>intro hc<;>(try simp only[cS]at hc)<;>(try exact aG))|refine aX ?_|refine az ?_)
    exact aC (.inl rfl) rfl rfl ⟨(),rfl,ah⟩
theorem zT (gn:Nat) (s:Nd) (h:NH) (ok:l6 s) {k b:Nat} {x:Sr} (hx:s.bu[k]? =some x) (hb:h.sb[k]? =some b):Spec Tryz.prog w0 215 [ptr b 0] (bG gn s h) (fun _:Unit=> .tuple #[]) (fun _=>bG gn (s.stop k) {h with sb:=h.sb.eraseIdx k}):=by
 have h1:=ok.dest hx
 have h2:=ok.name hx
 refine Spec.enter Tryz.func215 rfl Tryz.ntmps215 rfl fun G=> ?_
 refine mc fun tL u7=> ?_
 obtain⟨F,e1,_,e3⟩:=lE (Tj gn) hb hx
 have UE:(h.sb.eraseIdx k).length=(s.bu.eraseIdx k).length:=by rw[List.length_eraseIdx,List.length_eraseIdx,tL]
 have d1:gq (nR h.sb s.bu) x.dest=nR (h.sb.eraseIdx k) (s.bu.eraseIdx k):=tQ (key:=fun x:Sr=>x.dest) tL h1
 have d2:gq (oR h.sb s.bu) x.name=oR (h.sb.eraseIdx k) (s.bu.eraseIdx k):=tQ (key:=fun x:Sr=>x.name) tL h2
 simp only[bG,aY,bb,cw,ba,eu,Nd.stop,pR tL,pR UE,uk,e1,e3]
 simp only[aN,Tj,oB]
 rw[←d1,←d2]
 repeat' (first|refine ae (id:=0) (.range 12) 11 [3,6,10] ?_|refine ae (id:=1) (.range 12) 11 [3,6,10] ?_|(refine ab ?_;intro K hK)|(refine hK _ ?_;clear hK K)|refine ax ?_|refine az ?_|((refine' dP ?zh rfl rfl ?_);(case zh=>exact ky rfl rfl iI iI iI iI);intro g)|fail)
 exact aj (.inr rfl) rfl ⟨(),rfl,ah⟩
end
section
open Go.RowKit
attribute [local irreducible] WS LS cD eM cn cv Spec bA aK
variable (w0:World)
theorem ql (gn:Nat) (s:Nd) (h:NH) (r:Rq) (hl:s.order.length≤16):Spec Tryz.prog w0 170 [ptr gn 0,Bt r] (bG gn s h) (fun _:Value=> .tuple #[]) (fun vo=>bG gn (s.aT r) {h with vo:=vo}):=by
 refine Spec.enter Tryz.func170 rfl Tryz.ntmps170 rfl fun G=> ?_
 obtain⟨tb,vr,rh,rs,vo,MN,rq,ri,cb,cr,vs,vf,vc,vd,sb,wv⟩:=h
 obtain⟨R,hR⟩:∃R:af,R=rows 28 3 Rec.cells vr s.aI*(mp u32 u32 rh s.held*(dR tb s.self s.ls*(cw ⟨tb,vr,rh,rs,vo,MN,rq,ri,cb,cr,vs,vf,vc,vd,sb,wv⟩ s.out*(mA MN wv s.wait*(mp u32 gw rq (nR sb s.bu)*(mp i64 gw ri (oR sb s.bu)*(nZ gn sb s.bu*(iA cb cr s.last s.bI*(rows 24 1 eL vs s.aP*G))))))))):=⟨_,rfl⟩
 refine cV (H':=aK gn 159 (bb 1 s ⟨tb,vr,rh,rs,vo,MN,rq,ri,cb,cr,vs,vf,vc,vd,sb,wv⟩ s.out)*(mp Bt u64 rs s.seen*(rows 269 2 sE vo s.order*R))) (by rw[hR];unfold bG aY ba eu;exact ah) ?_
 have fin:∀(Sv:Value) (m':List (Rq×UInt64)) (l':List Rq) (Z:af),aq (aK gn 159 (bb 1 s ⟨tb,vr,rh,rs,Sv,MN,rq,ri,cb,cr,vs,vf,vc,vd,sb,wv⟩ s.out)*(mp Bt u64 rs m'*(rows 269 2 sE Sv l'*(R*Z)))) (bG gn {s with seen:=m',order:=l'} ⟨tb,vr,rh,rs,Sv,MN,rq,ri,cb,cr,vs,vf,vc,vd,sb,wv⟩*G):=by
  intro Sv m' l' Z
  rw[hR]
  have e1:cw ⟨tb,vr,rh,rs,Sv,MN,rq,ri,cb,cr,vs,vf,vc,vd,sb,wv⟩ s.out=cw ⟨tb,vr,rh,rs,vo,MN,rq,ri,cb,cr,vs,vf,vc,vd,sb,wv⟩ s.out:=rfl
  unfold bG aY ba eu
  simp only[bb,e1]
  exact ah
 refine jl vo iI fun A cap hv=> ?_
 subst hv
 simp only[bb,aN,Bt,sE]at*
 repeat' (first|(refine ab ?_;intro K hK)|(refine hK _ ?_;clear hK K)|refine ax ?_|refine az ?_|(refine bT ?_;intro g)|(refine lI (ur rfl rfl rfl rfl iI iI iI iI (Nat.zero_le _)) rfl ?_))
 have e0:yM (.slice A s.order.length cap) 0= .slice A 0 0:=by simp[yM]
 rw[e0]
 revert g;intro gb
 refine cV (aq.nil _ 269 2 sE A) ?_
 obtain⟨vo,Yl⟩:∃v:Value,v= .slice A s.order.length cap:=⟨_,rfl⟩
 rw[←Yl]
 refine aV (fun k τ=>∃(j:Nat) (vk:Value),j+k=s.order.length∧τ=⟨[(20,.int .i64 (j:Int)),(19,.int .i64 (s.order.length:Int)),(18,vo),(4,vk),(3,ptr gb 0),(0,ptr gn 0)],[],aK gb 269 [u32 r.src,u32 r.id]*(aK gn 159 (bb 1 s ⟨tb,vr,rh,rs,vo,MN,rq,ri,cb,cr,vs,vf,vc,vd,sb,wv⟩ s.out)*(mp Bt u64 rs (dg s.now s.seen (s.order.take j)).1*(rows 269 2 sE vk (dg s.now s.seen (s.order.take j)).2*(rows 269 2 sE vo s.order*R))))⟩) ?_ ?_
 ·exact⟨s.order.length,_,⟨0,_,by omega,rfl⟩,cG,rfl,by simp only[List.take_zero,dg,List.foldl_nil,bb];exact ah⟩
 ·rintro k τ ⟨j,vk,ym,rfl⟩
  rcases Nat.lt_or_ge j s.order.length with bW|kQ
  ·obtain⟨⟨xs,xi⟩,hz⟩:∃z,s.order[j]? =some z:=⟨_,List.getElem?_eq_getElem bW⟩
   have gK:dg s.now s.seen (s.order.take (j+1))=pO s.now (dg s.now s.seen (s.order.take j)) ⟨xs,xi⟩:=by rw[List.take_add_one,hz,Option.toList_some,oY]
   have Mn:=mJ s.now s.seen (s.order.take j)
   rw[List.length_take]at Mn
   generalize dg s.now s.seen (s.order.take j)=p at*
   obtain⟨m,q⟩:=p
   simp only[pO]at gK Mn
   simp only[bb,sE]
   cases hg:bX m (⟨xs,xi⟩:Rq)with
   |none=>
    have oQ:¬s.now<seenAt m ⟨xs,xi⟩:=by simp[seenAt,hg]
    have Wa:¬s.now<0:=UInt64.not_lt.2 (UInt64.zero_le)
    rw[if_neg oQ]at gK
    repeat' (first|refine ag (id:=5) (.range 11) ?_|refine ae (id:=7) (.range 6) 5 [3,4] ?_|(refine ab ?_;intro K hK)|(refine hK _ ?_;clear hK K)|refine ax ?_|(refine aF ?_ ?_<;>intro hc<;>(try simp only[cS]at hc)<;>(try exact aG))|refine aX ?_|refine az ?_|((first|refine' LQ ?zh rfl ?_|refine' bP rfl rfl rfl ?zh ?_|refine' bk rfl rfl ?zh ?_);case zh=>intro F';exact iw rfl rfl iI iI iI iI iI (by assumption))|(refine bT ?_;intro g)|((first|refine' bL ?zh ?_|refine' dP ?zh rfl rfl ?_);(case zh=>first|exact ky rfl rfl iI iI iI iI|exact bo rfl rfl iI iI (by first|rfl|(simp only[List.all_cons,List.all_nil, *];rfl)) rfl);intro g)|fail)
    exact⟨k - 1,_,by omega,⟨j+1,vk,by omega,rfl⟩,cG,rfl,by rw[gK];exact ah⟩
   |some t=>
    by_cases oQ:s.now<t
    ·have O2:s.now<seenAt m ⟨xs,xi⟩:=by simpa [seenAt,hg]using oQ
     rw[if_pos O2]at gK
     repeat' (first|refine ag (id:=5) (.range 11) ?_|(refine ab ?_;intro K hK)|(refine hK _ ?_;clear hK K)|refine ax ?_|(refine aF ?_ ?_<;>intro hc<;>(try simp only[cS]at hc)<;>(try exact aG))|refine aX ?_|refine az ?_|((first|refine' LQ ?zh rfl ?_|refine' bk rfl rfl ?zh ?_);case zh=>intro F';exact fw rfl rfl iI iI iI iI iI (by assumption))|(refine bT ?_;intro g)|((refine' bL ?zh ?_);(case zh=>exact bo rfl rfl iI iI (by first|rfl|(simp only[List.all_cons,List.all_nil, *];rfl)) rfl);intro g)|(refine ai (au sE [⟨xs,xi⟩] iI iI iI rfl rfl rfl rfl rfl iI rfl rfl rfl) rfl ?_;intro vx)|(refine ai (aR rfl rfl iI iI rfl iI iI vX (by first|omega|(simp[al]<;>omega)) rfl) rfl ?_;intro Su))
     exact⟨k - 1,_,by omega,⟨j+1,Su,by omega,rfl⟩,cG,rfl,by rw[gK];exact ah⟩
    ·have O2:¬s.now<seenAt m ⟨xs,xi⟩:=by simpa [seenAt,hg]using oQ
     rw[if_neg O2]at gK
     repeat' (first|refine ag (id:=5) (.range 11) ?_|refine ae (id:=7) (.range 6) 5 [3,4] ?_|(refine ab ?_;intro K hK)|(refine hK _ ?_;clear hK K)|refine ax ?_|(refine aF ?_ ?_<;>intro hc<;>(try simp only[cS]at hc)<;>(try exact aG))|refine aX ?_|refine az ?_|((first|refine' LQ ?zh rfl ?_|refine' bP rfl rfl rfl ?zh ?_|refine' bk rfl rfl ?zh ?_);case zh=>intro F';exact fw rfl rfl iI iI iI iI iI (by assumption))|(refine bT ?_;intro g)|((first|refine' bL ?zh ?_|refine' dP ?zh rfl rfl ?_);(case zh=>first|exact ky rfl rfl iI iI iI iI|exact bo rfl rfl iI iI (by first|rfl|(simp only[List.all_cons,List.all_nil, *];rfl)) rfl);intro g)|fail)
     exact⟨k - 1,_,by omega,⟨j+1,vk,by omega,rfl⟩,cG,rfl,by rw[gK];exact ah⟩
  ·obtain rfl:j=s.order.length:=by omega
   rw[List.take_of_length_le (Nat.le_refl _)]
   have Mn:=mJ s.now s.seen s.order
   generalize hp:dg s.now s.seen s.order=p at*
   obtain⟨m,q⟩:=p
   simp only at Mn
   obtain⟨ra,rb⟩:=r
   by_cases hlen:((q++[⟨ra,rb⟩]:List Rq).length:Int)≤16
   ·have er:s.aT ⟨ra,rb⟩={s with seen:=bY m ⟨ra,rb⟩ (s.now+1280),order:=q++[⟨ra,rb⟩]}:=by unfold Nd.aT;simp only[hp];rw[if_pos (by omega)]
    rw[er]
    simp only[bb,sE]at fin ⊢
    repeat' (first|refine ae (id:=10) (.range 11) 10 [3,4,8] ?_|(refine ab ?_;intro K hK)|(refine hK _ ?_;clear hK K)|refine ax ?_|(refine aF ?_ ?_<;>intro hc<;>(try simp only[cS]at hc)<;>(try exact aG))|refine aX ?_|refine az ?_|((first|refine' LQ ?zh rfl ?_|refine' bk rfl rfl ?zh ?_);case zh=>intro F';exact bE rfl rfl iI)|(refine bQ ?_;intro g)|((first|refine' bL ?zh ?_|refine' dP ?zh rfl rfl ?_);(case zh=>exact dt rfl rfl rfl iI iI iI iI iI);intro g)|(refine ai (au sE [⟨ra,rb⟩] iI iI iI rfl rfl rfl rfl rfl iI rfl rfl rfl) rfl ?_;intro vx)|(refine ai (aR rfl rfl iI iI rfl iI iI vX (by first|omega|(simp[al]<;>omega)) rfl) rfl ?_;intro Su;refine pj Su iI fun A2 Of mj=> ?_;subst mj))
    refine aj (.inl rfl) rfl ⟨.slice A2 (q++[⟨ra,rb⟩]:List Rq).length Of,rfl,?_⟩
    rw[er]
    refine aq.trans ?_ (fin _ _ _ emp)
    exact ah
   ·simp only[bb,sE]
    repeat' (first|refine ae (id:=10) (.range 11) 10 [3,4,8] ?_|(refine ab ?_;intro K hK)|(refine hK _ ?_;clear hK K)|refine ax ?_|(refine aF ?_ ?_<;>intro hc<;>(try simp only[cS]at hc)<;>(try exact aG))|refine aX ?_|refine az ?_|((first|refine' LQ ?zh rfl ?_|refine' bk rfl rfl ?zh ?_);case zh=>intro F';exact bE rfl rfl iI)|(refine bQ ?_;intro g)|((first|refine' bL ?zh ?_|refine' dP ?zh rfl rfl ?_);(case zh=>exact dt rfl rfl rfl iI iI iI iI iI);intro g)|(refine ai (au sE [⟨ra,rb⟩] iI iI iI rfl rfl rfl rfl rfl iI rfl rfl rfl) rfl ?_;intro vx)|(refine ai (aR rfl rfl iI iI rfl iI iI vX (by first|omega|(simp[al]<;>omega)) rfl) rfl ?_;intro Su;refine pj Su iI fun A2 Of mj=> ?_;subst mj))
    obtain⟨M,hM⟩:∃M:List (Rq×UInt64),M=bY m ⟨ra,rb⟩ (s.now+1280):=⟨_,rfl⟩
    obtain⟨L,hL⟩:∃L:List Rq,L=q++[⟨ra,rb⟩]:=⟨_,rfl⟩
    have VL:L.length≤17:=by rw[hL];simp;omega
    have Y3:16<L.length:=by rw[hL];omega
    have er:s.aT ⟨ra,rb⟩={s with seen:=gq M (L.getD (ib M L L.length) ⟨0,0⟩),order:=L.take (ib M L L.length)++L.drop (ib M L L.length+1)}:=by unfold Nd.aT;simp only[hp,←hM,←hL];rw[if_neg (by omega)]
    rw[←hL,←hM]
    clear hM hL
    obtain⟨vl,S5⟩:∃v:Value,v= .slice A2 L.length Of:=⟨_,rfl⟩
    rw[←S5]
    refine aV (fun k τ=>∃j:Nat,j+k=L.length∧τ=⟨[(73,.int .i64 (j:Int)),(72,.int .i64 (L.length:Int)),(71,vl),(7,.int .i64 (ib M L j:Int)),(0,ptr gn 0)],[],mp Bt u64 rs M*(aK gn 159 (bb 1 s ⟨tb,vr,rh,rs,vl,MN,rq,ri,cb,cr,vs,vf,vc,vd,sb,wv⟩ s.out)*(rows 269 2 sE vl L*R))⟩) ?_ ?_
    ·exact⟨L.length,_,⟨0,by omega,rfl⟩,cG,rfl,by simp only[bb];exact ah⟩
    ·rintro k τ ⟨j,ym,rfl⟩
     have zp:=nL M L j (by omega) (by omega)
     rcases Nat.lt_or_ge j L.length with bW|kQ
     ·obtain⟨⟨xs,xi⟩,hz⟩:∃z,L[j]? =some z:=⟨_,List.getElem?_eq_getElem bW⟩
      have JV:=nM M L j
      generalize ib M L j=i0 at*
      obtain⟨⟨ys,yi⟩,hy⟩:∃z,L[i0]? =some z:=⟨_,List.getElem?_eq_getElem zp⟩
      have S7:L.getD j ⟨0,0⟩=⟨xs,xi⟩:=by simp[hz]
      have UR:L.getD i0 ⟨0,0⟩=⟨ys,yi⟩:=by simp[hy]
      simp only[pE,S7,UR]at JV
      simp only[bb,sE]
      by_cases vR:seenAt M (⟨xs,xi⟩:Rq)<seenAt M (⟨ys,yi⟩:Rq)
      ·rw[if_pos vR]at JV
       cases T9:bX M (⟨xs,xi⟩:Rq)<;>cases Ua:bX M (⟨ys,yi⟩:Rq)
       all_goals simp only[seenAt,T9,Ua,Option.getD_none,Option.getD_some]at vR
       all_goals first|(exact absurd vR (by decide);done)|skip
       all_goals
        repeat' (first|refine ag (id:=16) (.range 19) ?_|(refine ab ?_;intro K hK)|(refine hK _ ?_;clear hK K)|refine ax ?_|(refine aF ?_ ?_<;>intro hc<;>(try simp only[cS]at hc)<;>(try exact aG))|refine aX ?_|refine az ?_|((first|refine' LQ ?zh rfl ?_|refine' bk rfl rfl ?zh ?_);case zh=>intro F';first|exact fw rfl rfl iI iI iI iI iI (by assumption)|exact iw rfl rfl iI iI iI iI iI (by assumption))|(refine bT ?_;intro g)|((refine' bL ?zh ?_);(case zh=>exact bo rfl rfl iI iI (by first|rfl|(simp only[List.all_cons,List.all_nil, *];rfl)) rfl);intro g)|fail)
       all_goals
        exact⟨k - 1,_,by omega,⟨j+1,by omega,rfl⟩,⟨rfl,rfl,rfl,by rw[JV];rfl,rfl,trivial⟩,rfl,ah⟩
      ·rw[if_neg vR]at JV
       cases T9:bX M (⟨xs,xi⟩:Rq)<;>cases Ua:bX M (⟨ys,yi⟩:Rq)
       all_goals simp only[seenAt,T9,Ua,Option.getD_none,Option.getD_some]at vR
       all_goals first|(exact absurd vR (by decide);done)|skip
       all_goals
        repeat' (first|refine ag (id:=16) (.range 19) ?_|(refine ab ?_;intro K hK)|(refine hK _ ?_;clear hK K)|refine ax ?_|(refine aF ?_ ?_<;>intro hc<;>(try simp only[cS]at hc)<;>(try exact aG))|refine aX ?_|refine az ?_|((first|refine' LQ ?zh rfl ?_|refine' bk rfl rfl ?zh ?_);case zh=>intro F';first|exact fw rfl rfl iI iI iI iI iI (by assumption)|exact iw rfl rfl iI iI iI iI iI (by assumption))|(refine bT ?_;intro g)|((refine' bL ?zh ?_);(case zh=>exact bo rfl rfl iI iI (by first|rfl|(simp only[List.all_cons,List.all_nil, *];rfl)) rfl);intro g)|fail)
       all_goals
        exact⟨k - 1,_,by omega,⟨j+1,by omega,rfl⟩,⟨rfl,rfl,rfl,by rw[JV];rfl,rfl,trivial⟩,rfl,ah⟩
     ·obtain rfl:j=L.length:=by omega
      generalize ib M L L.length=i0 at*
      obtain⟨⟨ys,yi⟩,hy⟩:∃z,L[i0]? =some z:=⟨_,List.getElem?_eq_getElem zp⟩
      have UR:L.getD i0 ⟨0,0⟩=⟨ys,yi⟩:=by simp[hy]
      rw[UR]at er
      simp only[bb,sE]
      repeat' (first|refine ae (id:=19) (.range 12) 11 [3,7,9,10] ?_|refine ae (id:=20) (.range 19) 15 [4,7,11,14] ?_|refine cK (id:=20) 0 (.range 19) 18 [4,11] ?_|(refine ab ?_;intro K hK)|(refine hK _ ?_;clear hK K)|refine ax ?_|(refine aF ?_ ?_<;>intro hc<;>(try simp only[cS]at hc)<;>(try exact aG))|refine aX ?_|refine az ?_|((first|refine' LQ ?zh rfl ?_|refine' bP rfl rfl rfl ?zh ?_|refine' bk rfl rfl ?zh ?_);case zh=>intro F';exact cW rfl rfl iI iI iI iI (by first|assumption|omega|(simp[al]<;>omega)))|(refine bQ ?_;intro g)|((refine' dP ?zh rfl rfl ?_);(case zh=>exact ky rfl rfl iI iI iI iI);intro g)|((refine' bP rfl rfl rfl ?zh ?_);(case zh=>intro F';exact ur rfl rfl rfl rfl iI iI iI iI (by omega)))|(refine aD (BA i0 (i0+1) rfl rfl iI (by omega) (by omega) iI iI vX (by omega) rfl iI) rfl rfl rfl ?_;intro va))
      refine aj (.inr rfl) rfl ⟨va,rfl,?_⟩
      rw[er]
      refine aq.trans ?_ (fin _ _ _ emp)
      exact ah
end
section
open Go.RowKit
attribute [local irreducible] WS LS cD eM cn cv Spec bA aK
variable (w0:World)
theorem uu (gn:Nat) (s:Nd) (h:NH) (p:Pk) (hl:p.lost=[]) (hp:cM p.aH) (hy:p.ar.length≤100) (ok:aW s.ls) (hf:s.Fit 1):Spec Tryz.prog w0 174 [ptr gn 0,p.val (.slice none 0 0)] (bG gn s h) (fun _:Value=> .tuple #[]) (fun _=>eD gn (s.answer p)):=by
 have p1:=find_spec w0 h.tb s.self s.ls ok p.from_ s.now
 have p2:=kf w0 gn s h 3 hf
 have p3:=fun to=>MO w0 gn s h to {p with bK:=8,kind:=2} ⟨by simp[cM],by simp[cM],hp,by simp[hl],by simp only;omega⟩ hl hf
 refine Spec.enter Tryz.func174 rfl Tryz.ntmps174 rfl fun G=> ?_
 simp only[bG,aY,bb,cw,ba,Pk.val,Pk.cells]at p1 p2 p3 ⊢
 simp only[aN]
 cases hx:bR s.ls p.from_ s.now with
 |none=>
  have es:s.answer p=s.drop 3:=by unfold Nd.answer;rw[hx]
  simp only[hx,fX,fW]at p1
  repeat' (first|refine aE (id:=2) 0 3 (.range 17) ?_|refine ae (id:=2) (.range 17) 10 [3,5,9] ?_|(refine ab ?_;intro K hK)|(refine hK _ ?_;clear hK K)|refine ax ?_|(refine aF ?_ ?_<;>intro hc<;>(try simp only[cS]at hc)<;>(try exact aG))|(refine aL iI rfl ?_;intro g)|refine az ?_|(refine bT ?_;intro g)|(refine bQ ?_;intro g)|((first|refine' bL ?zh ?_|refine' dP ?zh rfl rfl ?_);(case zh=>exact bo rfl rfl iI iI (by first|rfl|(simp only[List.all_cons,List.all_nil, *];rfl)) rfl);intro g)|(refine aD (aa iI rfl p1 iI) rfl rfl rfl ?_;intro x1)|(refine ai (aa iI rfl p2 iI) rfl ?_;intro x2))
  exact aj (.inr rfl) rfl ⟨.tuple #[],rfl,by rw[es];exact ah⟩
 |some b=>
  have es:s.answer p=s.send b.next {p with bK:=8,kind:=2}:=by unfold Nd.answer;rw[hx]
  simp only[hx,fX,fW,bM]at p1
  repeat' (first|refine aE (id:=2) 0 3 (.range 17) ?_|refine ae (id:=2) (.range 17) 10 [3,5,9] ?_|(refine ab ?_;intro K hK)|(refine hK _ ?_;clear hK K)|refine ax ?_|(refine aF ?_ ?_<;>intro hc<;>(try simp only[cS]at hc)<;>(try exact aG))|(refine aL iI rfl ?_;intro g)|refine az ?_|(refine bT ?_;intro g)|(refine bQ ?_;intro g)|(refine aD (aa iI rfl p1 iI) rfl rfl rfl ?_;intro x1)|(refine ai (aa iI rfl (p3 _) iI) rfl ?_;intro x2))
  exact aj (.inr rfl) rfl ⟨.tuple #[],rfl,by rw[es];exact ah⟩
theorem zz (gn:Nat) (s:Nd) (h:NH) (l:List (UInt32×UInt32)) (hl:l.length≤1000) (v:Value) (hf:s.Fit 1):Spec Tryz.prog w0 179 [ptr gn 0,v] (bG gn s h*rows 180 2 bB v l) (fun _:Value=> .tuple #[]) (fun _=>eD gn (s.lost l)):=by
 have p1:=fun A c=>Bi w0 gn s h 0 (Pk.gI l) (Pk.pG l (by omega)) (.slice A l.length c) rfl (rows 180 2 bB (.slice A l.length c) l) (fy _ _ _ _ _) hf
 refine Spec.enter Tryz.func179 rfl Tryz.ntmps179 rfl fun G=> ?_
 refine jl v iI fun A c hv=> ?_
 subst hv
 simp only[bG,aY,bb,cw,ba,Pk.val,Pk.cells,Pk.gI]at p1 ⊢
 simp only[aN]
 by_cases h0:0<l.length
 ·have es:s.lost l=s.send 0 (Pk.gI l):=by unfold Nd.lost;rw[if_pos h0]
  repeat' (first|(refine ab ?_;intro K hK)|(refine hK _ ?_;clear hK K)|refine ax ?_|(refine aF ?_ ?_<;>intro hc<;>(try simp only[cS]at hc)<;>(try exact aG))|refine aX ?_|refine az ?_|(refine ai (aa iI rfl (p1 _ _) iI) rfl ?_;intro x2))
  exact aj (.inr rfl) rfl ⟨.tuple #[],rfl,by rw[es];unfold Pk.gI;exact ah⟩
 ·have es:s.lost l=s:=by unfold Nd.lost;rw[if_neg h0]
  repeat' (first|(refine ab ?_;intro K hK)|(refine hK _ ?_;clear hK K)|refine ax ?_|(refine aF ?_ ?_<;>intro hc<;>(try simp only[cS]at hc)<;>(try exact aG))|refine aX ?_|refine az ?_)
  exact aj (.inr rfl) rfl ⟨.tuple #[],rfl,by rw[es];refine aq.vi h ?_;simp only[bG,aY,bb,cw,ba];exact ah⟩
theorem zl (gn:Nat) (s:Nd) (h:NH) (dest:UInt32) (text:cP) (ht:text.length≤100) (ok:aW s.ls) (hf:s.Fit 1):Spec Tryz.prog w0 145 [ptr gn 0,u32 dest,aZ text] (bG gn s h) (fun _:Value=> .bool (bR s.ls dest s.now).isSome) (fun vf=>bG gn (s.hand dest text) {h with vf:=vf}):=by
 have p1:=find_spec w0 h.tb s.self s.ls ok dest s.now
 refine Spec.enter Tryz.func145 rfl Tryz.ntmps145 rfl fun G=> ?_
 cases hx:bR s.ls dest s.now with
 |none=>
  have es:s.hand dest text=s:=by unfold Nd.hand;rw[hx]
  rw[es]
  simp only[bG,aY,bb,cw,ba]at p1 ⊢
  simp only[aN]
  simp only[hx,fX,fW]at p1
  repeat' (first|refine nA (id:=1) 0 (.range 16) ?_|refine ae (id:=1) (.range 16) 9 [3,8] ?_|refine cL (id:=1) 7 0 (.range 16) 14 [] ?_|(refine ab ?_;intro K hK)|(refine hK _ ?_;clear hK K)|refine ax ?_|(refine aF ?_ ?_<;>intro hc<;>(try simp only[cS]at hc)<;>(try exact aG))|(refine aL iI rfl ?_;intro g)|refine az ?_|((refine' dP ?zh rfl rfl ?_);(case zh=>exact bo rfl rfl iI iI (by first|rfl|(simp only[List.all_cons,List.all_nil, *];rfl)) rfl);intro g)|(refine aD (aa iI rfl p1 iI) rfl rfl rfl ?_;intro x1))
  exact aC (.inl rfl) rfl rfl ⟨h.vf,rfl,ah⟩
 |some b=>
  obtain⟨s1,iu⟩:∃s1:Nd,s1={s with ff:=s.ff+1}:=⟨_,rfl⟩
  obtain⟨s2,fP⟩:∃s2:Nd,s2=s1.send b.next ⟨8,9,0,false,s.ff+1,dest,0,s.self,0,0,[],text⟩:=⟨_,rfl⟩
  have es:s.hand dest text={s2 with ls:=iY s2.ls dest s2.ir}:=by unfold Nd.hand;rw[hx];rw[fP,iu];rfl
  have p2:=Gm w0 gn s1 h b.next ⟨8,9,0,false,s.ff+1,dest,0,s.self,0,0,[],text⟩ ⟨by simp[cM],by simp[cM],by simp[cM],by simp,by simp only;omega⟩ rfl (by rw[iu];exact⟨hf.aJ,hf.cj,hf.dropped,hf.aI,hf.ay⟩)
  have p3:=fun vf=>pQ w0 gn s2 {h with vf:=vf}
  have p4:=pe w0 h.tb s2.self s2.ls dest s2.ir
  rw[←fP]at p2
  rw[iu]at p2
  rw[es]
  simp only[bG,aY,bb,cw,ba,Pk.val,Pk.cells]at p1 p2 p3 p4 ⊢
  simp only[aN]
  simp only[hx,fX,fW,bM]at p1
  repeat' (first|refine nA (id:=1) 0 (.range 16) ?_|refine ae (id:=1) (.range 16) 9 [3,8] ?_|refine cL (id:=1) 7 0 (.range 16) 14 [] ?_|refine ae (id:=5) (.range 15) 14 [2,6,11] ?_|refine ae (id:=6) (.range 8) 7 [3] ?_|(refine ab ?_;intro K hK)|(refine hK _ ?_;clear hK K)|refine ax ?_|(refine aF ?_ ?_<;>intro hc<;>(try simp only[cS]at hc)<;>(try exact aG))|(refine aL iI rfl ?_;intro g)|refine az ?_|((refine' LQ ?zh rfl ?_);case zh=>intro F';exact bE rfl rfl iI)|(refine bQ ?_;intro g)|(refine aD (aa iI rfl p1 iI) rfl rfl rfl ?_;intro x1)|(refine aD (aa iI rfl p2 iI) rfl rfl rfl ?_;intro vf;replace p3:=p3 vf)|(refine oC iI rfl p3 iI rfl ?_)|(refine aD (aa iI rfl p4 iI) rfl rfl rfl ?_;intro x4))
  exact aC (.inl rfl) rfl rfl ⟨vf,rfl,ah⟩
end
section
open Go.RowKit
structure Pk.Read (p:Pk):Prop where
 bK:1≤p.bK∧p.bK≤255
 kind:cM p.kind
 aH:0≤p.aH∧p.aH≤255
 lost:p.lost.length≤1000
 ar:p.ar.length≤100
theorem Nd.j2 (s:Nd) (r:Rq):(s.aT r).ls=s.ls∧(s.aT r).self=s.self∧(s.aT r).now=s.now∧(s.aT r).out=s.out∧(s.aT r).aI=s.aI:=by
 unfold Nd.aT
 dsimp only
 split<;>exact⟨rfl,rfl,rfl,rfl,rfl⟩
theorem Nd.Fit.aT {s:Nd} {k:Nat} (h:s.Fit k) (r:Rq):(s.aT r).Fit k:=by
 obtain⟨_,_,_,e,f⟩:=s.j2 r
 exact⟨by rw[e];exact h.aJ,by rw[e];exact h.cj,by rw[e];exact h.dropped,by rw[f];exact h.aI,by rw[e];exact h.ay⟩
theorem pT (self:UInt32) (ls:List Ln) (x:Ln):(dI self ls x).1=0∨(dI self ls x).1=2∨(dI self ls x).1=3∨(dI self ls x).1=4:=by
 unfold dI
 repeat' split
 all_goals simp
theorem zy {ls:List Ln} {d:UInt32} {now:UInt64} {x:Ln} (h:bR ls d now=some x):x∈ls:=by
 unfold bR dG at h
 cases hf:cN ls d with
 |none=>rw[hf]at h;cases h
 |some i=>
  obtain⟨l,hl,_⟩:=dw hf
  rw[hf]at h
  simp only[Option.bind_some,hl]at h
  split at h
  ·cases h;exact List.mem_of_getElem? hl
  ·cases h
end
section
open Go.RowKit
variable (w0:World)
theorem tm (b r:Nat) (last:Int) (L:List Tm) (t:UInt64) (x:Int) (hl:L.length≤900000) (h0:0≤last∧last≤1000000000000000):Spec Tryz.prog w0 227 [ptr b 0,u64 t,.int .i64 x] (iA b r last L) (fun _:Unit=> .int .i64 (last+1)) (fun _=>iA b r (last+1) (L++[⟨t,last+1,x⟩])):=fun G w hs=>by
 unfold iA at hs
 obtain⟨l,iu⟩:=hs.ex
 obtain⟨tr,fP⟩:=(iu.cast (ad _ _ _)).pure
 have hp:=tr.perm.length_eq
 refine(He w0 b r last l t x (fun u hu=>by have:=tr.bound u (tr.perm.mem_iff.1 hu);omega) tr.Wt (by omega) h0 G w fP).mono ?_
 rintro e w' ⟨y,he,hx⟩
 exact⟨y,he,(aq.mX (p:=fun l=>pure' (TR l (L++[⟨t,last+1,x⟩]) (last+1))*fZ b r (last+1) l) _ ((aq.ji (tr.add h0.1 ⟨t,last+1,x⟩ rfl) (aq.refl _)).trans (aq.of_eq (ad _ _ _).symm))).sat hx⟩
theorem DY (b r:Nat) (last:Int) (L:List Tm) (now:UInt64) (hb:gN L now L.length=none):Spec Tryz.prog w0 143 [ptr b 0,u64 now] (iA b r last L) (fun _:Unit=> .tuple #[.int .i64 0,.bool false]) (fun _=>iA b r last L):=fun G w hs=>by
 unfold iA at hs
 obtain⟨l,iu⟩:=hs.ex
 obtain⟨tr,fP⟩:=(iu.cast (ad _ _ _)).pure
 have h1:0<l.length→now<(cJ l 0).at_:=fun h=>by
  by_cases hc:now<(cJ l 0).at_
  ·exact hc
  ·obtain⟨k,hk,_⟩:=tr.due h hc;rw[hb]at hk;cases hk
 refine(Ep w0 b r last l now h1 G w fP).mono ?_
 rintro e w' ⟨y,he,hx⟩
 exact⟨y,he,(aq.mX (p:=fun l=>pure' (TR l L last)*fZ b r last l) l ((aq.ji tr (aq.refl _)).trans (aq.of_eq (ad _ _ _).symm))).sat hx⟩
theorem DZ (b r:Nat) (last:Int) (L:List Tm) (now:UInt64) {i:Nat} (hb:gN L now L.length=some i) (hl:L.length≤900000):Spec Tryz.prog w0 143 [ptr b 0,u64 now] (iA b r last L) (fun _:Unit=> .tuple #[.int .i64 (cJ L i).km,.bool true]) (fun _=>iA b r last (L.eraseIdx i)):=fun G w hs=>by
 unfold iA at hs
 obtain⟨l,iu⟩:=hs.ex
 obtain⟨tr,fP⟩:=(iu.cast (ad _ _ _)).pure
 have hp:=tr.perm.length_eq
 have h0:0<l.length:=by have:=(iz hb).1;omega
 have h1:¬now<(cJ l 0).at_:=fun hc=>by rw[tr.idle (fun _=>hc)]at hb;cases hb
 obtain⟨k,hk,Cg,vS,YN⟩:=tr.due h0 h1
 rw[hb]at hk;cases hk
 refine(Er w0 b r last l now h0 h1 tr.Wt (by omega) G w fP).mono ?_
 rintro e w' ⟨y,he,hx⟩
 rw[vS]at he
 exact⟨y,he,(aq.mX (p:=fun l=>pure' (TR l (L.eraseIdx i) last)*fZ b r last l) _ ((aq.ji YN (aq.refl _)).trans (aq.of_eq (ad _ _ _).symm))).sat hx⟩
theorem Sj {P:Program} {t:TypeId} {x:UInt64} {r:Int} (h:0≤r∧r<64):dL P .shl t (u64 x) (.int .i64 r) (u64 (x<<<UInt64.ofNat r.toNat)):=by
 obtain⟨k,rfl⟩:∃k:Nat,r=(k:Int):=⟨r.toNat,by omega⟩
 refine⟨fun w=> ?_,fun w _ _=>bF _ _ _ _ _ _ _ _ _⟩
 show(Op.shift .shl .u64 (x.toNat:Int) .i64 (k:Int)).run P w=_
 have hk:k<64:=by omega
 unfold Op.shift
 rw[if_neg (by omega)]
 simp only[Int.toNat_natCast,IntKind.bits]
 rw[show min k 64=k by omega]
 have e:u64 (x<<<UInt64.ofNat k)= .int .u64 (IntKind.u64.wrap ((x.toNat:Int)*2 ^ k)):=by
  refine(nn ?_).symm
  rw[wrap_u64,UInt64.toNat_shiftLeft,UInt64.toNat_ofNat']
  rw[Nat.mod_eq_of_lt (show k<2 ^ 64 by omega),Nat.mod_eq_of_lt hk,Nat.shiftLeft_eq]
  simp
 rw[e];rfl
theorem Ab {P:Program} {n:fT} {w0:World} {E:Env} {H:af} {d:Option Tmp} {ty:TypeId} {pos:String} {after:Array Edge} {gu:Option (Tmp×Bool)} {x:Operand} {src t:TypeId} {q:IntKind} {m:Int} {ds:TypeDesc} (hx:E.ev x=some (.int q m)) (hs:eN P src ds) (hd:eN P t (.int .u64)) (hm:0≤m∧m<1000000):cD P n w0 ⟨d,.convert src t x,ty,pos,after,gu⟩ E H (u64 (UInt64.ofNat m.toNat)):=
 kX hx hs hd (by rw[wrap_u64,UInt64.toNat_ofNat'];omega)
theorem DM (x:Sr) (h:0≤x.bK∧x.bK≤8∧0≤x.aU∧x.aU≤2):iL x=(80*UInt64.ofNat (x.bK+2).toNat)<<<UInt64.ofNat x.aU.toNat:=by
 obtain⟨d,bK,ret,o,nm⟩:=x
 simp only at h
 unfold iL
 simp only
 obtain⟨h1,h2,h3,h4⟩:=h
 have a:bK=0∨bK=1∨bK=2∨bK=3∨bK=4∨bK=5∨bK=6∨bK=7∨bK=8:=by omega
 have b:ret=0∨ret=1∨ret=2:=by omega
 rcases a with rfl|rfl|rfl|rfl|rfl|rfl|rfl|rfl|rfl<;>rcases b with rfl|rfl|rfl<;>decide
theorem xG {α:Type} {l:List α} {k:Nat} {x:α} (h:l[k]? =some x) (f:α→α):l.modify k f=l.set k (f x):=by
 apply List.ext_getElem?
 intro j
 rw[List.getElem?_modify,List.getElem?_set]
 by_cases e:k=j
 ·subst e
  obtain⟨h1,h2⟩:=List.getElem?_eq_some_iff.1 h
  simp[h1,h2]
 ·simp[e]
theorem ye (g:Nat) {bs:List Nat} {ss:List Sr} {k b:Nat} {x:Sr} (hl:bs.length=ss.length) (hb:bs[k]? =some b) (hx:ss[k]? =some x):∃F,nZ g bs ss=aK b 247 (oB g b x)*F∧∀y,nZ g bs (ss.set k y)=aK b 247 (oB g b y)*F:=by
 obtain⟨F,e1,e2,_⟩:=lE (Tj g) hb hx
 refine⟨F,by rw[pR hl,uk,e1];rfl,fun y=> ?_⟩
 have:=e2 b y
 rw[show bs.set k b=bs from by
  apply List.ext_getElem?
  intro j
  rw[List.getElem?_set]
  split
  ·rename_i e;subst e;obtain⟨h1,h2⟩:=List.getElem?_eq_some_iff.1 hb;simp[h1,h2]
  ·rfl]at this
 rw[pR (by simpa using hl),uk,this];rfl
def yE (g:Nat) (s:Nd) (h:NH) (b:Nat) (x:Sr) (F1:af):af:=
 aK g 159 (bb 1 s h s.out)*(rows 28 3 Rec.cells h.vr s.aI*(mp u32 u32 h.rh s.held*(dR h.tb s.self s.ls*(cw h s.out*(mp Bt u64 h.rs s.seen*(rows 269 2 sE h.vo s.order*(mA h.rw h.wv s.wait*(mp u32 gw h.rq (nR h.sb s.bu)*(mp i64 gw h.ri (oR h.sb s.bu)*(aK b 247 (oB g b x)*(F1*(iA h.cb h.cr s.last s.bI*rows 24 1 eL h.vs s.aP))))))))))))
theorem Nd.Fit.note {s:Nd} {k:Nat} (h:s.Fit (k+1)) (ok:aW s.ls):s.note.Fit k:=by
 obtain⟨a,b,c,d,e⟩:=h
 have h1:=Nd.fz.note s
 have h2:=Nd.nj s ok
 have h3:=Nd.zI s ok
 exact⟨by rw[h1.aJ];omega,by rw[h1.cj];omega,by rw[h1.dropped];omega,by omega,by omega⟩
attribute [local irreducible] WS LS cD eM cn cv Spec bA aK
theorem wH (gn:Nat) (s:Nd) (h:NH) {k b:Nat} {x:Sr} (hx:s.bu[k]? =some x) (hb:h.sb[k]? =some b) (rf:0≤x.bK∧x.bK≤8∧0≤x.aU∧x.aU≤2) (ok:aW s.ls) (Lr:s.order.length≤16) (oQ:s.aP.length≤100) (Mh:s.bI.length≤900000) (Dz:0≤s.last∧s.last≤1000000000000) (hf:s.Fit 3):Spec Tryz.prog w0 198 [ptr b 0] (bG gn s h) (fun _:Unit=> .tuple #[]) (fun _=>eD gn (s.ask k x)):=by
 refine Spec.enter Tryz.func198 rfl Tryz.ntmps198 rfl fun G=> ?_
 refine mc fun tL u7=> ?_
 obtain⟨F1,e1,e2⟩:=ye gn tL hb hx
 have P7:=fun f=>xG hx f
 have SZ:∀y:Sr,y.dest=x.dest→nR h.sb (s.bu.set k y)=nR h.sb s.bu:=fun y hy=>sW (key:=fun x:Sr=>x.dest) hx hy
 have P2:∀y:Sr,y.name=x.name→oR h.sb (s.bu.set k y)=oR h.sb s.bu:=fun y hy=>sW (key:=fun x:Sr=>x.name) hx hy
 obtain⟨xd,xt,xr,xo,xn⟩:=x
 simp only at rf SZ P2
 have J5:=fun o=>SZ ⟨xd,xt,xr,o,xn⟩ rfl
 have JY:=fun o=>P2 ⟨xd,xt,xr,o,xn⟩ rfl
 simp only[aN]
 by_cases hc:s.now<s.cd
 ·have es:s.ask k ⟨xd,xt,xr,xo,xn⟩=((s.cH k false).drop 8).arm xn 1000:=by unfold Nd.ask;rw[if_pos hc]
  have p1:=iE w0 gn (s.cH k false) h 8 (by have:=hf.dropped;exact(by omega:s.out.dropped.length≤900000))
  have p2:=tm w0 h.cb h.cr s.last s.bI (s.now+1000) xn Mh (by omega)
  simp only[bG,aY,bb,cw,ba,eu,Nd.cH,Nd.drop,P7,e1,e2,J5,JY,oB]at p1 ⊢
  repeat' (first|refine ag (id:=14) (.range 10) ?_|refine ae (id:=18) (.range 15) 14 [3,7,13] ?_|(refine ab ?_;intro K hK)|(refine hK _ ?_;clear hK K)|refine ax ?_|(refine aF ?_ ?_<;>intro hc<;>(try simp only[cS]at hc)<;>(try exact aG))|refine aX ?_|refine az ?_|((first|refine' LQ ?zh rfl ?_|refine' bk rfl rfl ?zh ?_);case zh=>intro F';exact bE rfl rfl iI)|(refine bQ ?_;intro g)|(refine ai (aa iI rfl p1 iI) rfl ?_;intro vd)|(refine aD (aa iI rfl p2 iI) rfl rfl rfl ?_;intro x2))
  refine aj (.inr rfl) rfl ⟨(),rfl,?_⟩
  rw[es]
  refine aq.vi {h with vd:=vd} ?_
  simp only[bG,aY,bb,cw,ba,eu,Nd.cH,Nd.drop,Nd.arm,P7,e1,e2,J5,JY,oB]
  exact ah
 have pb:=G0 w0 gn (s.cH k false) h (by show s.aP.length≤1000;omega)
 have Ll:∀o,dJ (s.cH k o).now (s.cH k o).aP=dJ s.now s.aP:=fun _=>rfl
 rw[Ll]at pb
 by_cases SM:5≤dJ s.now s.aP
 ·have es:s.ask k ⟨xd,xt,xr,xo,xn⟩=((s.cH k false).drop 9).arm xn 1000:=by unfold Nd.ask;rw[if_neg hc,if_pos SM]
  have p1:=iE w0 gn (s.cH k false) h 9 (by have:=hf.dropped;exact(by omega:s.out.dropped.length≤900000))
  have p2:=tm w0 h.cb h.cr s.last s.bI (s.now+1000) xn Mh (by omega)
  rw[decide_eq_true SM]at pb
  simp only[bG,aY,bb,cw,ba,eu,Nd.cH,Nd.drop,P7,e1,e2,J5,JY,oB]at p1 pb ⊢
  repeat' (first|refine ag (id:=14) (.range 10) ?_|refine ae (id:=18) (.range 15) 14 [3,7,13] ?_|(refine ab ?_;intro K hK)|(refine hK _ ?_;clear hK K)|refine ax ?_|(refine aF ?_ ?_<;>intro hc<;>(try simp only[cS]at hc)<;>(try exact aG))|refine aX ?_|refine az ?_|((first|refine' LQ ?zh rfl ?_|refine' bk rfl rfl ?zh ?_);case zh=>intro F';exact bE rfl rfl iI)|(refine bQ ?_;intro g)|(refine ai (aa iI rfl pb iI) rfl ?_;intro x0)|(refine ai (aa iI rfl p1 iI) rfl ?_;intro vd)|(refine aD (aa iI rfl p2 iI) rfl rfl rfl ?_;intro x2))
  refine aj (.inr rfl) rfl ⟨(),rfl,?_⟩
  rw[es]
  refine aq.vi {h with vd:=vd} ?_
  simp only[bG,aY,bb,cw,ba,eu,Nd.cH,Nd.drop,Nd.arm,P7,e1,e2,J5,JY,oB]
  exact ah
 rw[decide_eq_false SM]at pb
 obtain⟨s0,sZ⟩:∃s0:Nd,s0={s.cH k true with seq:=bS s.seq}:=⟨_,rfl⟩
 obtain⟨sB,Mq⟩:∃sB:Nd,sB=s0.note:=⟨_,rfl⟩
 have Q1:sB.Fit 2:=by rw[Mq];exact Nd.Fit.note (s:=s0) (by rw[sZ];exact⟨hf.aJ,hf.cj,hf.dropped,hf.aI,hf.ay⟩) (by rw[sZ];exact ok)
 have PW:=Nd.fz.note s0
 have okB:aW sB.ls:=by rw[Mq,PW.ls,sZ];exact ok
 have Xh:sB.bu=s.bu.set k ⟨xd,xt,xr,true,xn⟩:=by rw[Mq,PW.bu,sZ];exact P7 _
 have JO:sB.aP=s.aP:=by rw[Mq,PW.aP,sZ];rfl
 have QK:sB.order=s.order:=by rw[Mq,PW.order,sZ];rfl
 have QJ:sB.bI=s.bI:=by rw[Mq,PW.bI,sZ];rfl
 have On:sB.last=s.last:=by rw[Mq,PW.last,sZ];rfl
 have VP:nZ gn h.sb sB.bu=aK b 247 (oB gn b ⟨xd,xt,xr,true,xn⟩)*F1:=by rw[Xh];exact e2 _
 obtain⟨s2,fP⟩:∃s2:Nd,s2={sB with ids:=sB.ids+1,aP:=ik (sB.aP++[sB.now])}:=⟨_,rfl⟩
 have es:s.ask k ⟨xd,xt,xr,xo,xn⟩=((s2.send 0 ⟨xt,1,0,(dG s2.ls xd).isNone,s2.ids,xd,eJ s2.ls xd,s2.self,s2.seq,0,[],[]⟩).aT ⟨s2.self,s2.ids⟩).arm xn (iL ⟨xd,xt,xr,xo,xn⟩):=by
  unfold Nd.ask
  rw[if_neg hc,if_neg SM]
  unfold Nd.gE
  rw[fP,Mq,sZ]
  rfl
 have TT:nZ gn h.sb s2.bu=aK b 247 (oB gn b ⟨xd,xt,xr,true,xn⟩)*F1:=by rw[fP];exact VP
 have mF:s2.Fit 2:=by rw[fP];exact⟨Q1.aJ,Q1.cj,Q1.dropped,Q1.aI,Q1.ay⟩
 have Px:aW s2.ls:=by rw[fP];exact okB
 have Ux:s2.order.length≤16:=by rw[fP];show sB.order.length≤16;rw[QK];exact Lr
 have TZ:s2.bI=s.bI:=by rw[fP];exact QJ
 have Ui:s2.last=s.last:=by rw[fP];exact On
 have pg:=mW w0 s.seq
 have pn:=nk w0 1 gn s0 h ⟨by rw[sZ];have:=hf.aI;exact(by omega:s.aI.length+10≤500000),by rw[sZ];have:=hf.ay;exact(by omega:s.out.ay.length+13*10≤900000)⟩ (by rw[sZ];exact ok)
 rw[←Mq]at pn
 rw[sZ]at pn
 have Lw:(sB.aP++[sB.now]).length=s.aP.length+1:=by rw[JO];simp
 have Ya:sB.aP.length≤100:=by rw[JO];exact oQ
 simp only[bG,aY,bb,cw,ba,eu,Nd.cH,P7,e1,e2,J5,JY,oB,VP,bS]at pb pn ⊢
 have Lu:∀(vr vs:Value),∃h2:NH,h2={h with vr:=vr,vs:=vs}:=fun _ _=>⟨_,rfl⟩
 by_cases hlen:5<(sB.aP++[sB.now]).length
 all_goals
  first
  |(have Yg:s2.aP=(sB.aP++[sB.now]).drop 1:=by rw[fP];unfold ik;rw[if_pos hlen])
  |(have Yg:s2.aP=sB.aP++[sB.now]:=by rw[fP];unfold ik;rw[if_neg hlen])
  have V6:(5:Int)<((sB.aP++[sB.now]).length:Int)∨¬(5:Int)<((sB.aP++[sB.now]).length:Int):=by omega
  repeat' (first|refine ag (id:=14) (.range 10) ?_|refine ae (id:=7) (.range 14) 10 [4,8] ?_|refine cK (id:=7) 2 (.range 14) 13 [4,8] ?_|(refine ab ?_;intro K hK)|(refine hK _ ?_;clear hK K)|refine ax ?_|(refine aF ?_ ?_<;>intro hc<;>(try simp only[cS]at hc)<;>(try exact aG))|refine aX ?_|refine az ?_|((first|refine' LQ ?zh rfl ?_|refine' bP rfl rfl rfl ?zh ?_|refine' bk rfl rfl ?zh ?_);case zh=>intro F';exact cW rfl rfl iI iI iI iI (by first|assumption|omega|(simp[al]<;>omega)))|((refine' LQ ?zh rfl ?_);case zh=>intro F';exact bE rfl rfl iI)|(refine bQ ?_;intro g)|(refine ai (aa iI rfl pb iI) rfl ?_;intro x0)|(refine ai (vv iI rfl pg) rfl ?_;intro ug)|(refine ai (aa iI rfl pn iI) rfl ?_;intro vr)|(refine aD (au eL [sB.now] iI iI iI rfl rfl rfl rfl rfl iI rfl rfl rfl) rfl rfl rfl ?_;intro vx)|(refine aD (aR rfl rfl iI iI rfl iI iI qX (by first|omega|(simp[al]<;>omega)) rfl) rfl rfl rfl ?_;intro va))
  first
  |(have rX:5<(sB.aP++[sB.now]).length:=hlen
    refine cV (H':=yE gn s2 {h with vr:=vr,vs:=cq 1 va 1} b ⟨xd,xt,xr,true,xn⟩ F1*G) (by
     rw[fP]
     simp only[yE,bb,cw,ik,if_pos hlen,oB]
     refine(aq.NP (v:=va) 1 (by omega)).trans ?_
     exact ah) ?_
    obtain⟨h2,hh⟩:∃h2:NH,h2={h with vr:=vr,vs:=cq 1 va 1}:=⟨_,rfl⟩
    rw[←hh]
    have SP:h2.tb=h.tb∧h2.sb=h.sb∧h2.cb=h.cb∧h2.cr=h.cr:=by rw[hh];exact⟨rfl,rfl,rfl,rfl⟩
    clear hh)
  |(refine cV (H':=yE gn s2 {h with vr:=vr,vs:=va} b ⟨xd,xt,xr,true,xn⟩ F1*G) (by
     rw[fP]
     simp only[yE,bb,cw,ik,if_neg hlen,oB]
     exact ah) ?_
    obtain⟨h2,hh⟩:∃h2:NH,h2={h with vr:=vr,vs:=va}:=⟨_,rfl⟩
    rw[←hh]
    have SP:h2.tb=h.tb∧h2.sb=h.sb∧h2.cb=h.cb∧h2.cr=h.cr:=by rw[hh];exact⟨rfl,rfl,rfl,rfl⟩
    clear hh)
  obtain⟨i1,i2,i3,i4⟩:=SP
  clear pb pn
  rw[←i2]at TT
  have p4:=mo w0 h2.tb s2.self s2.ls xd
  obtain⟨pk,SY⟩:∃pk:Pk,pk=⟨xt,1,0,(dG s2.ls xd).isNone,s2.ids,xd,eJ s2.ls xd,s2.self,s2.seq,0,[],[]⟩:=⟨_,rfl⟩
  have p5:=Gm w0 gn s2 h2 0 pk (by rw[SY];exact⟨by simp only[cM];omega,by simp[cM],by simp[cM],by simp,by simp⟩) (by rw[SY]) (mF.le (by omega))
  obtain⟨s3,qI⟩:∃s3:Nd,s3=s2.send 0 pk:=⟨_,rfl⟩
  have e3:s3.self=s2.self∧s3.ids=s2.ids∧s3.bu=s2.bu∧s3.order=s2.order∧s3.now=s2.now∧s3.bI=s2.bI∧s3.last=s2.last:=by rw[qI];exact⟨rfl,rfl,rfl,rfl,rfl,rfl,rfl⟩
  rw[←qI]at p5
  have p6:=fun vf=>ql w0 gn s3 {h2 with vf:=vf} ⟨s3.self,s3.ids⟩ (by rw[e3.2.2.2.1];exact Ux)
  obtain⟨s4,Nn⟩:∃s4:Nd,s4=s3.aT ⟨s3.self,s3.ids⟩:=⟨_,rfl⟩
  have e4:s4.bu=s3.bu∧s4.now=s3.now∧s4.bI=s3.bI∧s4.last=s3.last:=by rw[Nn];unfold Nd.aT;dsimp only;split<;>exact⟨rfl,rfl,rfl,rfl⟩
  rw[←Nn]at p6
  have VN:nZ gn h2.sb s3.bu=aK b 247 (oB gn b ⟨xd,xt,xr,true,xn⟩)*F1:=by rw[e3.2.2.1];exact TT
  have VO:nZ gn h2.sb s4.bu=aK b 247 (oB gn b ⟨xd,xt,xr,true,xn⟩)*F1:=by rw[e4.1];exact VN
  have p7:=tm w0 h2.cb h2.cr s4.last s4.bI (s4.now+((80*UInt64.ofNat (xt+2).toNat)<<<UInt64.ofNat xr.toNat)) xn (by rw[e4.2.2.1,e3.2.2.2.2.2.1,TZ];exact Mh) (by rw[e4.2.2.2,e3.2.2.2.2.2.2,Ui];omega)
  have Ax:s.ask k ⟨xd,xt,xr,xo,xn⟩=s4.arm xn ((80*UInt64.ofNat (xt+2).toNat)<<<UInt64.ofNat xr.toNat):=by
   rw[es,DM _ rf,←SY,←qI,Nn,e3.1,e3.2.1]
  rw[SY]at p5
  have Rs:0≤xr∧xr<64:=by omega
  simp only[bG,aY,bb,cw,ba,eu,TT,VN,VO,Pk.val,Pk.cells,Bt,sE,oB]at p5 p6
  simp only[yE,bb,cw,oB]
  cases hg:dG s2.ls xd
  all_goals
   simp only[eJ,hg,Option.isSome_none,Option.isSome_some,Option.isNone_none,Option.isNone_some]at p4 p5
   repeat' (first|refine ae (id:=10) (.range 14) 8 [3,7] ?_|refine ae (id:=11) (.range 26) 25 [4,10,14,19,23] ?_|refine ae (id:=12) (.range 11) 10 [4,8] ?_|refine ag (id:=13) (.range 13) ?_|refine ae (id:=18) (.range 15) 14 [3,7,13] ?_|(refine ab ?_;intro K hK)|(refine hK _ ?_;clear hK K)|refine ax ?_|refine az ?_|((refine' bk rfl rfl ?zh ?_);case zh=>intro F';exact bE rfl rfl iI)|(refine aD (aa iI rfl p4 iI) rfl rfl rfl ?_;intro x4)|(refine aD (aa iI rfl p5 iI) rfl rfl rfl ?_;intro vf;replace p6:=p6 vf)|(refine aD (aa iI rfl p6 iI) rfl rfl rfl ?_;intro vo)|((first|refine' bP rfl rfl rfl ?zh ?_|refine' bk rfl rfl ?zh ?_);(case zh=>intro F';exact Ab rfl iI iI (by omega)))|((first|refine' bP rfl rfl rfl ?zh ?_|refine' bk rfl rfl ?zh ?_);(case zh=>intro F';exact bE rfl rfl (Sj Rs)))|(refine aD (aa iI rfl p7 iI) rfl rfl rfl ?_;intro x7))
   refine aj (.inr rfl) rfl ⟨(),rfl,?_⟩
   rw[Ax]
   refine aq.vi {h2 with vf:=vf,vo:=vo} ?_
   simp only[bG,aY,bb,cw,ba,eu,Nd.arm,VO,oB]
   exact ah
end
end Go.Proofs.YtapoehkdnglahabGreat

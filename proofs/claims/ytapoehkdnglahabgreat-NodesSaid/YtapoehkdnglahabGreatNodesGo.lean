/- A part of what Nodes needs. -/
import Derived.Test.YtapoehkdnglahabGreatNodesGn
set_option maxHeartbeats 16000000
set_option maxRecDepth 100000
set_option linter.unusedVariables false
set_option linter.unusedSimpArgs false
set_option linter.unusedSectionVars false
namespace Go.Proofs.YtapoehkdnglahabGreat
section
open Go.RowKit
structure Sk where
 dest:UInt32
 bK:Int
 aU:Int
 due:UInt64
 set:Int
 out:Bool
structure RD where
 tb:Nat
 vr:Value
 vs:Value
 vw:Value
 vq:Value
 vt:Value
 vf:Value
 vc:Value
 vd:Value
 vh:Value
 seen:List (Rq×UInt64)
 wait:List (UInt32×cP)
 search:List Sk
 aP:List UInt64
 held:List Rec
def jM (x:Rq×UInt64):List Value:=[u32 x.1.src,u32 x.1.id,u64 x.2]
def uM (x:Sk):List Value:=[u32 x.dest,.int .i64 x.bK,.int .i64 x.aU,u64 x.due,.int .i64 x.set,.bool x.out]
instance:cY jM 3:=⟨fun _=>rfl⟩
instance:cY uM 6:=⟨fun _=>rfl⟩
theorem nr:∀z,∀c∈jM z,c.oneCell'=true:=by intro z c hc;simp[jM]at hc;rcases hc with rfl|rfl|rfl<;>rfl
theorem vY:∀z,∀c∈uM z,c.oneCell'=true:=by intro z c hc;simp[uM]at hc;rcases hc with rfl|rfl|rfl|rfl|rfl|rfl<;>rfl
def bN (s:Nd) (d:RD) (o:dS):List Value:=
 [u32 s.self,u32 s.seq,ptr d.tb 0,d.vr,u64 s.cd,d.vs,d.vw,d.vq,.int .i64 s.last,u32 s.ids,u32 s.ff,d.vt,u64 s.now,aZ o.ay,.bool o.replace,d.vf,d.vc,d.vd,d.vh,u32 s.own]
def cy (d:RD) (o:dS):af:=rows 48 2 dA d.vf o.aJ*(rows 70 2 dA d.vc o.cj*rows 166 1 lr d.vd o.dropped)
def cc (vs vw vq vt:Value) (sn:List (Rq×UInt64)) (wt:List (UInt32×cP)) (sk:List Sk) (st:List UInt64):af:=
 rows 312 3 jM vs sn*(rows 243 2 dA vw wt*(rows 210 6 uM vq sk*rows 24 1 eL vt st))
def bc (d:RD):af:=cc d.vs d.vw d.vq d.vt d.seen d.wait d.search d.aP
def cR (g:Nat) (s:Nd) (d:RD):af:=
 aK g 195 (bN s d s.out)*(rows 28 3 Rec.cells d.vr s.aI*(rows 28 3 Rec.cells d.vh d.held*(ct d.tb s.self s.ls*(cy d s.out*bc d))))
def gH (l:List Rec) (a q:UInt32):Bool:=l.any fun h=>decide (h.addr=a)&&decide (q≤h.seq)
def Sk.of (x:Sr) (due:UInt64) (set:Int):Sk:=⟨x.dest,x.bK,x.aU,due,set,x.out⟩
structure TW where
 n:Nat
 ex:Option Int
 i0:Nat
def TW.next (W:TW):TW:={W with i0:=W.i0+5}
structure Twin (W:TW) (s:Nd) (d:RD):Prop where
 held:∀a q,gH d.held a q=true↔∃q',bX s.held a=some q'∧¬q'<q
 mY:og d.held
 kg:∀h∈d.held,h.own=false∧∃l∈s.ls,l.dest=h.addr
 seen:d.seen=s.order.map fun q=>(q,seenAt s.seen q)
 o9:s.order.Nodup
 oz:∀q,q∉s.order→bX s.seen q=none
 o7:∀q∈s.order,q.src=s.self→q.id.toNat≤s.ids.toNat
 wait:∀dst,s.texts dst=(d.wait.filter fun w=>decide (w.1=dst)).map (·.2)
 mL:d.wait.length≤W.n
 hP:d.search.length=s.bu.length
 search:∀(i:Nat) x y,s.bu[i]? =some x→d.search[i]? =some y→∃due set,y=Sk.of x due set∧(W.ex=some x.name∨(⟨due,set,x.name⟩:Tm)∈s.bI)
 jT:(s.bI.map (·.km)).Nodup
 Br:(s.bI.map (·.id)).Pairwise (·<·)
 fN:∀t∈s.bI,1≤t.id∧t.id≤s.last∧t.km≤s.names
 aP:s.aP=d.aP.drop (d.aP.length - 5)
 oA:d.aP.Pairwise fun a b=>a.toNat≤b.toNat
 ns:∀t∈d.aP,t.toNat≤s.now.toNat
 nX:d.aP.length=s.ids.toNat
 DB:KN s.seen
 Bp:KN s.wait
 FP:∀t∈s.bI,W.ex≠some t.km
 oy:s.ids.toNat≤W.i0+dJ s.now s.aP
def qe (W:TW) (g:Nat) (s:Nd):af:=hex fun d=>pure' (Twin W s d)*cR g s d
theorem aq.rn {W:TW} {g:Nat} {s:Nd} {d:RD} {H F:af} (t:Twin W s d) (h:aq H (cR g s d*F)):aq H (qe W g s*F):=
 aq.trans h (aq.trans (aq.ji t (aq.refl _)) (aq.trans (aq.of_eq (by ac_rfl)) (aq.qA (p:=fun d=>pure' (Twin W s d)*cR g s d) d)))
theorem rz {P:Program} {n:fT} {w0:World} {E:Env} {D:List Deferred} {H F:af} {c:Code} {Q:Exit→St→Prop} {W:TW} {g:Nat} {s:Nd} (hl:Own H (qe W g s) F) (h:∀d,Twin W s d→WS P n w0 c Q ⟨E,D,cR g s d*F⟩):WS P n w0 c Q ⟨E,D,H⟩:=by
 rw[hl.eq]
 unfold qe
 refine iU fun x=> ?_
 rw[ad]
 exact jR fun hr=>h x hr
theorem kA {P:Program} {n:fT} {w0:World} {E:Env} {D:List Deferred} {H F:af} {ops:Array Oper} {l':List Oper} {Q:Exit→St→Prop} {W:TW} {g:Nat} {s:Nd} (hl:Own H (qe W g s) F) (h:∀d,Twin W s d→LS P n w0 ops Q l' ⟨E,D,cR g s d*F⟩):LS P n w0 ops Q l' ⟨E,D,H⟩:=by
 rw[hl.eq]
 unfold qe
 refine DD fun x=> ?_
 rw[ad]
 exact lH inferInstance fun hr=>h x hr
structure Nd.Alike (s t:Nd):Prop where
 self:t.self=s.self
 held:t.held=s.held
 ls:∀l∈s.ls,∃l'∈t.ls,l'.dest=l.dest
 seen:t.seen=s.seen
 order:t.order=s.order
 ids:t.ids=s.ids
 wait:t.wait=s.wait
 bu:t.bu=s.bu
 bI:t.bI=s.bI
 last:t.last=s.last
 names:t.names=s.names
 aP:t.aP=s.aP
 now:t.now=s.now
theorem Twin.to {W:TW} {s t:Nd} {d e:RD} (h:Twin W s d) (k:s.Alike t) (h1:e.seen=d.seen) (h2:e.wait=d.wait) (h3:e.search=d.search) (h4:e.aP=d.aP) (h5:e.held=d.held):Twin W t e:=by
 obtain⟨a1,a2,a3,a4,a5,a6,a7,a8,a9,Sx,Sy,a12,WN,WO,WQ,WR,a17,WT,WU,a20,a21,a22⟩:=h
 constructor
 ·rw[h5,k.held];exact a1
 ·rw[h5];exact a2
 ·rw[h5];intro x hx
  obtain⟨l,hl,hd⟩:=(a3 x hx).2
  obtain⟨l',ON,Ov⟩:=k.ls l hl
  exact⟨(a3 x hx).1,l',ON,Ov.trans hd⟩
 ·rw[h1,k.order,k.seen];exact a4
 ·rw[k.order];exact a5
 ·rw[k.order,k.seen];exact a6
 ·rw[k.order,k.self,k.ids];exact a7
 ·rw[h2];intro dst;unfold Nd.texts;rw[k.wait];exact a8 dst
 ·rw[h2];exact a9
 ·rw[h3,k.bu];exact Sx
 ·rw[h3,k.bu,k.bI];exact Sy
 ·rw[k.bI];exact a12
 ·rw[k.bI];exact WN
 ·rw[k.bI,k.last,k.names];exact WO
 ·rw[h4,k.aP];exact WQ
 ·rw[h4];exact WR
 ·rw[h4,k.now];exact a17
 ·rw[h4,k.ids];exact WT
 ·rw[k.seen];exact WU
 ·rw[k.wait];exact a20
 ·rw[k.bI];exact a21
 ·rw[k.ids,k.now,k.aP];exact a22
theorem Nd.Alike.refl (s:Nd):s.Alike s:=⟨rfl,rfl,fun l h=>⟨l,h,rfl⟩,rfl,rfl,rfl,rfl,rfl,rfl,rfl,rfl,rfl,rfl⟩
theorem oI {ls IF:List Ln} (h:∀x∈aO ls,x∈aO IF):∀l∈ls,∃l'∈IF,l'.dest=l.dest:=fun l hl=>by
 have:=h l.dest (List.mem_map_of_mem hl)
 obtain⟨l',h1,h2⟩:=List.mem_map.1 this
 exact⟨l',h1,h2⟩
theorem Nd.Alike.Yy {s:Nd} {ls:List Ln} (h:∀x∈aO s.ls,x∈aO ls):s.Alike {s with ls:=ls}:=⟨rfl,rfl,oI h,rfl,rfl,rfl,rfl,rfl,rfl,rfl,rfl,rfl,rfl⟩
theorem Nd.Alike.MC (s:Nd) (o:dS):s.Alike {s with out:=o}:=⟨rfl,rfl,fun l h=>⟨l,h,rfl⟩,rfl,rfl,rfl,rfl,rfl,rfl,rfl,rfl,rfl,rfl⟩
end
section
theorem HE {κ ν:Type} [DecidableEq κ] {m:List (κ×ν)} {k:κ} {v:ν} {p:κ×ν} (h:p∈bY m k v):p∈m∨p=(k,v):=by
 unfold bY at h
 split at h
 ·exact List.mem_or_eq_of_mem_set h
 ·rcases List.mem_append.1 h with h|h
  ·exact .inl h
  ·simp at h;exact .inr h
theorem Nd.Inv.put {s:Nd} (h:s.Inv) (d:UInt32) (l:List cP) (hl:l.length≤4) (ht:∀t∈l,t.length≤16):Nd.Inv {s with wait:=bY s.wait d l}:=⟨h.dp,⟨h.sr.aO,h.sr.names,h.sr.each⟩,h.order,fun w hw=>by
 rcases HE hw with hw|rfl
 ·exact h.wait w hw
 ·exact⟨hl,ht⟩,h.aP,h.aI⟩
def Nd.roomFor (s:Nd) (d:UInt32):Nd:=if(s.texts d).length=4 then Nd.drop {s with wait:=bY s.wait d ((s.texts d).drop 1)} 6 else s
def Nd.put (s:Nd) (d:UInt32) (t:cP):Nd:={s with wait:=bY s.wait d (s.texts d++[t])}
def Nd.nE (s:Nd) (d:UInt32):Nd:=Nd.ask (s.eC d) s.bu.length ⟨d,1,0,false,s.names+1⟩
theorem Nd.o6 (s:Nd) (d:UInt32) (t:cP):s.ea d t=if(bR s.ls d s.now).isSome then s.hand d t else match eS ((s.roomFor d).put d t).bu d with
 |some _=>(s.roomFor d).put d t
 |none=>((s.roomFor d).put d t).nE d:=rfl
theorem Nd.qn (s:Nd) (d:UInt32) (h:(s.texts d).length≤4):((s.roomFor d).texts d).length≤3∧∀t∈(s.roomFor d).texts d,t∈s.texts d:=by
 unfold Nd.roomFor
 split
 ·rename_i h4
  have e:Nd.texts (Nd.drop {s with wait:=bY s.wait d ((s.texts d).drop 1)} 6) d=(s.texts d).drop 1:=by
   show(bX (bY s.wait d ((s.texts d).drop 1)) d).getD []=_
   rw[fo,if_pos rfl];rfl
  rw[e]
  exact⟨by simp;omega,fun t ht=>List.mem_of_mem_drop ht⟩
 ·exact⟨by omega,fun t ht=>ht⟩
theorem Nd.Inv.roomFor {s:Nd} (h:s.Inv) (d:UInt32):(s.roomFor d).Inv:=by
 obtain⟨h1,h2⟩:=gS h d
 unfold Nd.roomFor
 split
 ·exact(h.put d _ (by simp;omega) (fun t ht=>h2 t (List.mem_of_mem_drop ht))).drop _
 ·exact h
theorem Nd.Inv.Vd {s:Nd} (h:s.Inv) (d:UInt32) (t:cP) (hl:(s.texts d).length≤3) (ht:t.length≤16):(s.put d t).Inv:=by
 obtain⟨h1,h2⟩:=gS h d
 refine Nd.Inv.put h d _ (by simp;omega) fun x hx=> ?_
 rcases List.mem_append.1 hx with hx|hx
 ·exact h2 x hx
 ·simp at hx;subst hx;exact ht
theorem Nd.HF (s:Nd) (d:UInt32):(s.eC d).bu[s.bu.length]? =some ⟨d,1,0,false,s.names+1⟩:=by simp[Nd.eC]
theorem Nd.Inv.nE {s:Nd} (h:s.Inv) (d:UInt32) (hd:eS s.bu d=none) (h0:0≤s.names):(s.nE d).Inv:=by
 unfold Nd.nE
 exact(h.eC d hd h0).ask (s.HF d)
theorem Nd.kM (s:Nd) (d:UInt32):(s.roomFor d).names=s.names∧(s.roomFor d).bI=s.bI∧(s.roomFor d).last=s.last∧(s.roomFor d).bu=s.bu∧(s.roomFor d).now=s.now∧(s.roomFor d).ls=s.ls∧(s.roomFor d).self=s.self∧(s.roomFor d).held=s.held∧(s.roomFor d).cd=s.cd∧(s.roomFor d).aP=s.aP∧(s.roomFor d).seq=s.seq∧(s.roomFor d).out.aJ=s.out.aJ∧(s.roomFor d).aI=s.aI:=by
 unfold Nd.roomFor
 split<;>exact⟨rfl,rfl,rfl,rfl,rfl,rfl,rfl,rfl,rfl,rfl,rfl,rfl,rfl⟩
theorem Nd.Inv.ea {s:Nd} (h:s.Inv) (d:UInt32) (t:cP) (ht:t.length≤16) (h0:0≤s.names):(s.ea d t).Inv:=by
 rw[Nd.o6]
 split
 ·exact h.hand _ _
 ·have h1:=(h.roomFor d).Vd d t (Nd.qn s d (gS h d).1).1 ht
  split
  ·exact h1
  ·rename_i hs
   exact h1.nE d hs (by show 0≤(s.roomFor d).names;rw[(s.kM d).1];exact h0)
theorem Nd.Step.roomFor (s:Nd) (d:UInt32):s.Step (s.roomFor d) 1 0:=by
 unfold Nd.roomFor
 split
 ·exact((Nd.Step.zero (s:=s) (t:={s with wait:=bY s.wait d ((s.texts d).drop 1)}) rfl rfl rfl rfl).trans (Nd.Step.drop _ _)).le (by omega) (by omega)
 ·exact(Nd.Step.zero rfl rfl rfl rfl).le (by omega) (by omega)
theorem Nd.Step.put (s:Nd) (d:UInt32) (t:cP):s.Step (s.put d t) 0 0:=Nd.Step.zero rfl rfl rfl rfl
theorem Nd.Step.nE (s:Nd) (d:UInt32):s.Step (s.nE d) 1 (1+(cE s.ls).length):=
 ((Nd.Step.zero (s:=s) (t:=s.eC d) rfl rfl rfl rfl).trans (Nd.Step.ask (s.eC d) s.bu.length ⟨d,1,0,false,s.names+1⟩)).le (by omega) (by show 0+(1+(cE s.ls).length)≤_;omega)
theorem Nd.Step.ea (s:Nd) (d:UInt32) (t:cP):s.Step (s.ea d t) 2 (1+(cE s.ls).length):=by
 rw[Nd.o6]
 split
 ·exact(Nd.Step.hand _ _ _).le (by omega) (by omega)
 ·have h1:=(Nd.Step.roomFor s d).trans (Nd.Step.put _ d t)
  split
  ·exact h1.le (by omega) (by omega)
  ·have h2:=h1.trans (Nd.Step.nE ((s.roomFor d).put d t) d)
   have e:((s.roomFor d).put d t).ls=s.ls:=(s.kM d).2.2.2.2.2.1
   rw[e]at h2
   exact h2.le (by omega) (by omega)
theorem Nd.Il (s:Nd) (d:UInt32) (t:cP) {now:UInt64} (hn:s.now=now) (hb:now.toNat≤4611686018427387904):(s.ea d t).bI.length≤s.bI.length+1∧s.last≤(s.ea d t).last∧(s.ea d t).last≤s.last+1∧s.names≤(s.ea d t).names∧(s.ea d t).names≤s.names+1:=by
 rw[Nd.o6]
 split
 ·have h:=Nd.uB s d [t]
  simp only[Nd.bg,List.foldl_cons,List.foldl_nil]at h
  rw[h.1,h.2.1,h.2.2]
  omega
 ·obtain⟨e1,e2,e3,e4,e5,_⟩:=s.kM d
  split
  ·show(s.roomFor d).bI.length≤_∧_≤(s.roomFor d).last∧(s.roomFor d).last≤_∧_≤(s.roomFor d).names∧(s.roomFor d).names≤_
   rw[e1,e2,e3]
   omega
  ·have hM:=Nd.wG (((s.roomFor d).put d t).eC d) ((s.roomFor d).put d t).bu.length ⟨d,1,0,false,((s.roomFor d).put d t).names+1⟩ (by simp) (now:=now) (by show(s.roomFor d).now=now;rw[e5,hn]) hb
   obtain⟨⟨E,m1,m2,m3,m4⟩,m5⟩:=hM
   have c1:(((s.roomFor d).put d t).eC d).bI=s.bI:=e2
   have c2:(((s.roomFor d).put d t).eC d).last=s.last:=e3
   have c3:(((s.roomFor d).put d t).eC d).names=s.names+1:=by show(s.roomFor d).names+1=_;rw[e1]
   rw[c1]at m1
   rw[c2]at m4
   rw[c3]at m5
   unfold Nd.nE
   rw[m1,m4,m5,List.length_append]
   omega
theorem Nd.Rest.send {s:Nd} {c:Nat} (h:s.Rest c) {now:UInt64} (hn:now.toNat≤4611686018427387904) (d:UInt32) (t:cP) (ht:t.length≤16):(s.iG now d t).Rest (c+1):=by
 obtain⟨e1,e2,e3,e4,e5,e6⟩:=s.fM now
 have hi:=(h.inv.begin now).ea d t ht (by rw[e4];exact h.names.1)
 obtain⟨k1,k2,k3,k4,k5⟩:=Nd.tC hi
 obtain⟨h1,h2,h3,h4,h5⟩:=Nd.Il (s.begin now) d t e1 hn
 have g1:=h.names;have g2:=h.bI;have g3:=h.last
 rw[e2]at h1
 rw[e3]at h2 h3
 rw[e4]at h4 h5
 unfold Nd.iG
 exact⟨k1,k2,by rw[k5];omega,by rw[k3];omega,by rw[k4];omega⟩
theorem Nd.Step.KW {s:Nd} (h:s.Inv) (d:UInt32) (t:cP):s.Step (s.ea d t) 2 9:=(Nd.Step.ea s d t).le (Nat.le_refl _) (by have:=Hw h;omega)
theorem Nd.tD (s:Nd):s.done.self=s.self∧s.done.ls=s.ls∧s.done.cd=s.cd∧s.done.bu=s.bu∧s.done.aP=s.aP∧s.done.seq=s.seq∧s.done.last=s.last∧s.done.out.aJ=s.out.aJ∧s.done.wait=s.wait∧s.done.now=s.now∧s.done.seen=s.seen∧s.done.order=s.order∧s.done.bI=s.bI∧s.done.names=s.names∧s.done.ids=s.ids∧s.done.ff=s.ff∧s.done.out.cj=s.out.cj∧s.done.out.dropped=s.out.dropped:=by
 have m:=Nd.fz.note s
 unfold Nd.done
 split<;>exact⟨m.self,m.ls,m.cd,m.bu,m.aP,m.seq,m.last,m.aJ,m.wait,m.now,m.seen,m.order,m.bI,m.names,m.ids,m.ff,m.cj,m.dropped⟩
theorem Nd.Rest.mono {s:Nd} {c d:Nat} (h:s.Rest c) (hd:c≤d):s.Rest d:=⟨h.inv,h.aI,⟨h.names.1,by have:=h.names.2;omega⟩,by have:=h.bI;omega,⟨h.last.1,by have:=h.last.2;omega⟩⟩
theorem Nd.DU (self:UInt32) (b:List UInt8) (now:UInt64):(Nd.bO self b now).Inv:=by
 unfold Nd.bO
 split
 ·exact⟨dx.new _ _,⟨List.nodup_nil,List.nodup_nil,fun x hx=>(by cases hx)⟩,(by simp[Nd.blank]),fun w hw=>(by cases hw),(by simp[Nd.blank]),fun r hr=>(by cases hr)⟩
 ·exact⟨dx.nil,⟨List.nodup_nil,List.nodup_nil,fun x hx=>(by cases hx)⟩,(by simp[Nd.blank]),fun w hw=>(by cases hw),(by simp[Nd.blank]),fun r hr=>(by cases hr)⟩
theorem Nd.xM (self:UInt32) (b:List UInt8) (now:UInt64):(Nd.bO self b now).fz (Nd.new self b now):=(Nd.fz.write _ _).trans (Nd.fz.note _)
theorem Nd.xL (self:UInt32) (b:List UInt8) (now:UInt64):(Nd.new self b now).Rest 0:=by
 have h0:=Nd.DU self b now
 have h1:=h0.write ⟨true,0,(Nd.bO self b now).seq⟩ (.inl rfl)
 have m:=Nd.xM self b now
 have hr:=Nd.nj ((Nd.bO self b now).write ⟨true,0,(Nd.bO self b now).seq⟩) h1.dp.dp
 have hb:(Nd.bO self b now).aI=[]∧(Nd.bO self b now).names=0∧(Nd.bO self b now).bI=[]∧(Nd.bO self b now).last=0:=by
  unfold Nd.bO
  split<;>exact⟨rfl,rfl,rfl,rfl⟩
 obtain⟨b1,b2,b3,b4⟩:=hb
 have e:((Nd.bO self b now).write ⟨true,0,(Nd.bO self b now).seq⟩).aI.length=1:=by
  show((Nd.bO self b now).aI++[_]).length=1
  rw[b1];rfl
 rw[e]at hr
 refine⟨?_,?_,?_,?_,?_⟩
 ·exact h1.note
 ·show(Nd.note _).aI.length≤24
  omega
 ·rw[m.names,b2];simp
 ·rw[m.bI,b3];simp
 ·rw[m.last,b4];simp
end
section
open Go.RowKit
theorem Ks (ws:List (UInt32×List cP)) (d:UInt32) (l:List cP):bY ws d l=match dK (·.1) ws d with|some k=>ws.set k (d,l)|none=>ws++[(d,l)]:=by
 have:∀ws:List (UInt32×List cP),dT ws d=dK (·.1) ws d:=fun ws=>by
  induction ws with
  |nil=>rfl
  |cons x r ih=>simp only[dT,dK];rw[ih]
 unfold bY
 rw[this]
 cases dK (·.1) ws d<;>rfl
theorem Iu (r:Nat) {vs:List (Option Addr×Nat×Nat)} {ws:List (UInt32×List cP)} (hl:vs.length=ws.length) (d:UInt32):∃R,(∀Z,aq (mA r vs ws*Z) (mp u32 cT r (jA vs ws)*(rows 9 1 jk (tZ cT (.slice none 0 0) (bX (jA vs ws) d)) ((bX ws d).getD [])*(R*Z))))∧
 (∀Z,aq (mp u32 cT r (jA vs ws)*(rows 9 1 jk (tZ cT (.slice none 0 0) (bX (jA vs ws) d)) ((bX ws d).getD [])*(R*Z))) (mA r vs ws*Z))∧
 ∀v l,∃Bv,∀Z,aq (mp u32 cT r (bY (jA vs ws) d v)*(rows 9 1 jk (cT v) l*(R*Z))) (mA r Bv (bY ws d l)*Z):=by
 cases hk:dK (·.1) ws d with
 |none=>
  have h1:bX (jA vs ws) d=none:=iC (key:=fun x:UInt32×List cP=>x.1) hl hk
  have h2:bX ws d=none:=by rw[AQ,hk];rfl
  rw[h1,h2]
  refine⟨n5 vs ws,fun Z=> ?_,fun Z=> ?_,fun v l=>⟨vs++[v],fun Z=> ?_⟩⟩
  ·rw[eW hl,ad]
   exact aq.tail _ (aq.nil _ _ _ _ _)
  ·rw[eW hl,ad]
   exact aq.tail _ (aq.drop _ _)
  ·have h3:bY (jA vs ws) d v=jA (vs++[v]) (ws++[(d,l)]):=lV (key:=fun x:UInt32×List cP=>x.1) v (d,l) rfl hl hk
   rw[h3,Ks,hk,eW (by simp[hl]),j3,j3,um v (d,l) hl,ad,ad]
   exact aq.refl _
 |some k=>
  obtain⟨x,hx,Lx⟩:=fQ hk
  obtain⟨v0,hv⟩:∃v,vs[k]? =some v:=⟨_,List.getElem?_eq_getElem (by rw[hl];exact(List.getElem?_eq_some_iff.1 hx).1)⟩
  have h1:bX (jA vs ws) d=some v0:=iD (key:=fun x:UInt32×List cP=>x.1) hl hk hv
  have h2:bX ws d=some x.2:=by rw[AQ,hk];simp[hx]
  obtain⟨F1,e1,e2,_⟩:=lE Sq hv hx
  rw[h1,h2]
  refine⟨F1,fun Z=> ?_,fun Z=> ?_,fun v l=>⟨vs.set k v,fun Z=> ?_⟩⟩
  ·rw[eW hl,j3,e1,ad,ad]
   exact aq.refl _
  ·rw[eW hl,j3,e1,ad,ad]
   exact aq.refl _
  ·have h3:bY (jA vs ws) d v=jA (vs.set k v) (ws.set k (d,l)):=xI (key:=fun x:UInt32×List cP=>x.1) v (d,l) rfl hl hk
   rw[h3,Ks,hk,eW (by simp[hl]),j3,e2,ad,ad]
   exact aq.refl _
section
variable {P:Program} {n:fT} {w0:World} {E:Env} {D:List Deferred} {H F F1 F2 F3 F4:af} {Q:Exit→St→Prop} {l l':List Oper}
theorem yR {id:Nat} (g1 g2 g3 g4:Nat) (L:af) (idx:List Nat) (cp:Nat) (bs:List Nat) {bt rJ DV Tu:TypeId} {cs pV D2 Tw:List Value} (hs:iT P l idx (yA bs) cp=true) (hl:jK l idx=some l') (hR:cZ H g1 bt cs F1) (Ca:cZ F1 g2 rJ pV F2) (QL:cZ F2 g3 DV D2 F3) (Xm:cZ F3 g4 Tu Tw F4) (hL:Own F4 L F) (h:DL P n w0 l.toArray Q D (aK g1 bt cs*(aK g2 rJ pV*(aK g3 DV D2*aK g4 Tu Tw))) L (yA bs) cp 0 false l' E F):WS P n w0 (.region id l.toArray true) Q ⟨E,D,H⟩:=
 iK idx l' (aK g1 bt cs*(aK g2 rJ pV*(aK g3 DV D2*aK g4 Tu Tw))) L F _ cp hs (by rw[hR.eq,Ca.eq,QL.eq,Xm.eq,hL.eq];simp only[ad]) (gO hl) h
end
instance Qy (A:Option Addr) (m c:Nat):hU cT (.slice A m c) (A,m,c):=⟨rfl⟩
section
variable {P:Program} {n:fT} {w0:World} {E:Env} {D:List Deferred} {H F F2:af} {Q:Exit→St→Prop} {x y:Code} {σ:St}
theorem N0 (I:St→Prop) (h:WS P n w0 x (thenS (fun σ'=>∃τ',I τ'∧τ'.E.sub σ'.E∧τ'.D=σ'.D∧aq σ'.H τ'.H) Q) σ) (hm:∀τ,I τ→WS P n w0 y Q τ):WS P n w0 (.seq x y) Q σ:=Jb (h.mono fun e σ' h=>by
 cases e with
 |normal=>
  obtain⟨τ',hI,e1,e2,e3⟩:=h
  exact fun a w g=>hm τ' hI a w (g.low e1 e2 e3)
 |_=>exact h)
variable {α:Type} {e:TypeId} {size bytes:Nat} {f:α→List Value} {v u:Value} {l:List α} {d:Option Tmp} {ty t:TypeId} {pos:String} {after:Array Edge} {gu:Option (Nat×Bool)} {x' y':Operand}
theorem wc {ys:List α} (hx:E.ev x'=some v) (hy:E.ev y'=some u) (hl:dD H v α e size f l F) {f':α→List Value} (yz:dD F u α e size f' ys F2) (Hj:f'=f) (hT:lj P t e size bytes) (hf:cY f size) (h1:∀z,∀c∈f z,c.oneCell'=true) (hn:l.length+ys.length≤1000000) (uX:Nat.ble bytes 1000=true):
 cn P n w0 ⟨d,.call ⟨.builtin .append,#[x',y'],#[t,t]⟩,ty,pos,after,gu⟩ E H (fun p:Option Addr×Nat×Nat=>cT p) (fun p=>rows e size f (cT p) (l++ys)*(rows e size f u ys*F2)):=by
 subst Hj
 refine⟨rows e size f' v l*rows e size f' u ys,fun p=>rows e size f' (cT p) (l++ys)*rows e size f' u ys,F2,?_,by rw[hl.eq,yz.eq,ad],fun _=>by rw[ad]⟩
 have h:=rr (n:=n) (w0:=w0) (E:=E) (d:=d) (ty:=ty) (pos:=pos) (after:=after) (gu:=gu) ys (rows e size f' u ys) hx hy hT.out (.inl hT.out.ht) hf h1 (fun w G hs=>Src.own hs.p2) hn (Nat.le_of_ble_eq_true uX)
 exact fun G a w K Q s hs hK=>h G a w K Q s hs fun v' w' eI=>by
  obtain⟨A,c,rfl⟩:=gz (eI.cast (ad _ _ _))
  exact hK (A,(l++ys).length,c) w' eI
end
def Vn (A:Option Addr) (m c:Nat):Option Addr×Nat×Nat:=match cq 1 (.slice A m c) 1 with
 | .slice a b c=>(a,b,c)
 |_=>(none,0,0)
instance QA (A:Option Addr) (m c:Nat):hU cT (cq 1 (.slice A m c) 1) (Vn A m c):=⟨rfl⟩
theorem PI (A:Option Addr) (m c:Nat):cT (Vn A m c)=cq 1 (.slice A m c) 1:=rfl
instance Qz (p:Option Addr×Nat×Nat):hU cT (cT p) p:=⟨rfl⟩
def su (g:Nat) (s:Nd) (h:NH) (m:List (UInt32×(Option Addr×Nat×Nat))) (v:Value) (l:List cP) (R:af):af:=
 aK g 159 (bb 1 s h s.out)*(rows 28 3 Rec.cells h.vr s.aI*(mp u32 u32 h.rh s.held*(dR h.tb s.self s.ls*(cw h s.out*(mp Bt u64 h.rs s.seen*(rows 269 2 sE h.vo s.order*(mp u32 cT h.rw m*(rows 9 1 jk v l*(R*(mp u32 gw h.rq (nR h.sb s.bu)*(mp i64 gw h.ri (oR h.sb s.bu)*(nZ g h.sb s.bu*(iA h.cb h.cr s.last s.bI*rows 24 1 eL h.vs s.aP)))))))))))))
def Gj (g:Nat) (s:Nd) (h:NH) (Z:af):af:=aK g 159 (bb 1 s h s.out)*(rows 28 3 Rec.cells h.vr s.aI*(mp u32 u32 h.rh s.held*(dR h.tb s.self s.ls*(cw h s.out*(mp Bt u64 h.rs s.seen*(rows 269 2 sE h.vo s.order*(mp u32 gw h.rq (nR h.sb s.bu)*(mp i64 gw h.ri (oR h.sb s.bu)*(nZ g h.sb s.bu*(iA h.cb h.cr s.last s.bI*(rows 24 1 eL h.vs s.aP*Z)))))))))))
theorem EN (g:Nat) (s:Nd) (h:NH) (Z:af):bG g s h*Z=mA h.rw h.wv s.wait*Gj g s h Z:=by
 unfold bG aY ba eu Gj
 ac_rfl
theorem EM (g:Nat) (s:Nd) (h:NH) (m:List (UInt32×(Option Addr×Nat×Nat))) (v:Value) (l:List cP) (R Z:af):su g s h m v l R*Z=mp u32 cT h.rw m*(rows 9 1 jk v l*(R*Gj g s h Z)):=by
 unfold su Gj
 ac_rfl
theorem Ky {g:Nat} {s:Nd} {h:NH} {m:List (UInt32×(Option Addr×Nat×Nat))} {v:Value} {l:List cP} {R:af} {Bv:List (Option Addr×Nat×Nat)} {WK:List (UInt32×List cP)} (e:∀Z,aq (mp u32 cT h.rw m*(rows 9 1 jk v l*(R*Z))) (mA h.rw Bv WK*Z)) (Z:af):aq (su g s h m v l R*Z) (bG g {s with wait:=WK} {h with wv:=Bv}*Z):=by
 rw[EN,EM]
 exact e _
theorem BN {P:Program} {n:fT} {w0:World} {E:Env} {D:List Deferred} {F:af} {c:Code} {Q:Exit→St→Prop} {g:Nat} {s:Nd} {h:NH} (d:UInt32) (u7:h.wv.length=s.wait.length)
 (hw:∀A cap R,tZ cT (.slice none 0 0) (bX (jA h.wv s.wait) d)= .slice A (s.texts d).length cap→
  (∀Z,aq (su g s h (jA h.wv s.wait) (.slice A (s.texts d).length cap) (s.texts d) R*Z) (bG g s h*Z))→
  (∀v l,∃Bv,∀Z,aq (su g s h (bY (jA h.wv s.wait) d v) (cT v) l R*Z) (bG g {s with wait:=bY s.wait d l} {h with wv:=Bv}*Z))→
  WS P n w0 c Q ⟨E,D,su g s h (jA h.wv s.wait) (.slice A (s.texts d).length cap) (s.texts d) R*F⟩):WS P n w0 c Q ⟨E,D,bG g s h*F⟩:=by
 obtain⟨R,e1,e3,e2⟩:=Iu h.rw u7 d
 intro a w gd
 have hs:Sat w0 w (bG g s h*F):=gd.sat
 rw[EN]at hs
 have fP:=(e1 _).sat hs
 obtain⟨A,cap,hA⟩:=gz (fP.cast (aM _ _ _))
 have Xe:tZ cT (.slice none 0 0) (bX (jA h.wv s.wait) d)= .slice A (s.texts d).length cap:=hA
 rw[hA]at fP e3
 refine hw A cap R Xe (fun Z=> ?_) (fun v l=> ?_) a w ⟨gd.dQ,gd.defers,fP.cast (by rw[EM];rfl)⟩
 ·rw[EN,EM];exact e3 _
 obtain⟨Bv,h1⟩:=e2 v l
 exact⟨Bv,fun Z=>Ky h1 Z⟩
end
section
open Go.RowKit
instance QF {P:Program} {t e:TypeId} {b:Nat} [h:eN P t (.pointer e)]:dL P .eql t (gw b) (.pointer none) (.bool false):=Mb (a:=⟨b,0,none⟩)
instance RR {P:Program} {t e:TypeId} {b:Nat} [h:eN P t (.pointer e)]:dL P .neq t (gw b) (.pointer none) (.bool true):=MA (a:=⟨b,0,none⟩)
attribute [local irreducible] WS LS cD eM cn cv Spec bA aK
variable (w0:World)
theorem Ff (gn:Nat) (s:Nd) (d:UInt32) (t:cP) (ht:t.length≤16) (hi:s.Inv) (sY:0≤s.names∧s.names≤1000000) (Mh:s.bI.length≤100000) (Dz:0≤s.last∧s.last≤900000000000) (hf:s.Fit 6) (bn bd bt:Nat) (tn td tt:TypeId):Spec Tryz.prog w0 144 [ptr bn 0,ptr bd 0,ptr bt 0] (eD gn s*(aK bn tn [ptr gn 0]*(aK bd td [u32 d]*aK bt tt [aZ t]))) (fun _:Unit=> .tuple #[]) (fun _=>eD gn (s.ea d t)*emp):=by
 refine Spec.enter Tryz.func144 rfl Tryz.ntmps144 rfl fun G=> ?_
 rw[ad (eD gn s),ad (aK bn tn _),ad (aK bd td _)]
 refine wA fun h=> ?_
 simp only[aN]
 have ok:=hi.dp.dp
 have p1:=zl w0 gn s h d t (by omega) ok (hf.le (by omega))
 by_cases hr:(bR s.ls d s.now).isSome=true
 ·have es:s.ea d t=s.hand d t:=by unfold Nd.ea;rw[if_pos hr]
  rw[hr]at p1
  repeat' (first|(refine ab ?_;intro K hK)|(refine hK _ ?_;clear hK K)|refine ax ?_|(refine aF ?_ ?_<;>intro hc<;>(try simp only[cS]at hc)<;>(try exact aG))|refine az ?_|(refine ai (aa iI rfl p1 iI) rfl ?_;intro vf))
  exact aj (.inl rfl) rfl ⟨(),rfl,by rw[es,ad (eD _ _)];exact aq.vi {h with vf:=vf} (ah)⟩
 have Hn:(bR s.ls d s.now).isSome=false:=by simpa using hr
 have eh:s.hand d t=s:=by
  unfold Nd.hand
  cases hl:bR s.ls d s.now with
  |none=>rfl
  |some x=>rw[hl]at hr;exact absurd rfl hr
 have es:=Nd.o6 s d t
 rw[if_neg hr]at es
 rw[eh,Hn]at p1
 obtain⟨s1,iu⟩:∃s1,s1=s.roomFor d:=⟨_,rfl⟩
 have zq:s1.Inv:=by rw[iu];exact hi.roomFor d
 have j7:s1.Fit 5:=by rw[iu];exact Nd.Step.fit (Nd.Step.roomFor s d) (by have:=hf.aJ;omega) (by have:=hf.cj;omega) (by have:=hf.dropped;omega) (by have:=hf.aI;omega) (by have:=hf.ay;omega)
 obtain⟨e1,e2,e3,e4,e5,e6,e7,_⟩:=s.kM d
 have Cm:=gS hi d
 repeat' (first|(show WS _ _ _ (.seq (.seq (.region 1 _ _) _) _) _ _;refine N0 (fun τ=>∃h2:NH,τ=⟨[(0,ptr bn 0),(0+1,ptr bd 0),(0+1+1,ptr bt 0)],[],bG gn s1 h2*(aK bn tn [ptr gn 0]*(aK bd td [u32 d]*(aK bt tt [aZ t]*G)))⟩) ?_ ?_)|(refine ab ?_;intro K hK)|(refine hK _ ?_;clear hK K)|refine ax ?_|(refine aF ?_ ?_<;>intro hc<;>(try simp only[cS]at hc)<;>(try exact aG))|refine az ?_|(refine ai (aa iI rfl p1 iI) rfl ?_;intro vf))
 ·obtain⟨h1,JX⟩:∃h1:NH,h1={h with vf:=vf}:=⟨_,rfl⟩
  rw[←JX]
  clear p1 JX
  refine mc fun tL u7=> ?_
  refine BN d u7 fun A cap R hm FU mZ=> ?_
  obtain⟨tx,ZI⟩:∃tx,tx=s.texts d:=⟨_,rfl⟩
  have We:s.roomFor d=if tx.length=4 then Nd.drop {s with wait:=bY s.wait d (tx.drop 1)} 6 else s:=by rw[ZI];rfl
  rw[←ZI]at hm FU Cm ⊢
  rw[We]at iu
  clear ZI We
  by_cases h4:tx.length=4
  ·rw[if_pos h4]at iu
   obtain⟨Bv,tN⟩:=mZ (Vn A tx.length cap) (tx.drop 1)
   have p2:=kf w0 gn {s with wait:=bY s.wait d (tx.drop 1)} {h1 with wv:=Bv} 6 ⟨by have:=hf.aJ;show s.out.aJ.length+1≤_;omega,by have:=hf.cj;show s.out.cj.length+1≤_;omega,by have:=hf.dropped;show s.out.dropped.length+1≤_;omega,by have:=hf.aI;show s.aI.length+9*1≤_;omega,by have:=hf.ay;show s.out.ay.length+120*1≤_;omega⟩
   rw[←iu]at p2
   rw[PI]at tN
   simp only[su,bb]
   repeat' (first|refine ag (id:=1) (.range 8) ?_|refine ae (id:=2) (.range 13) 12 [0,3,4,5,8,9,10,11] ?_|(refine ab ?_;intro K hK)|(refine hK _ ?_;clear hK K)|refine ax ?_|(refine aF ?_ ?_<;>intro hc<;>(try simp only[cS]at hc)<;>(try exact aG))|refine aX ?_|refine az ?_|((first|refine' LQ ?zh rfl ?_|refine' bP rfl rfl rfl ?zh ?_|refine' bk rfl rfl ?zh ?_);case zh=>intro F';first|exact fh rfl rfl iI iI iI iI iI (by assumption)|exact cW rfl rfl iI iI iI iI (by first|assumption|omega|(simp[al]<;>omega)))|((refine' dP ?zh rfl rfl ?_);(case zh=>exact dt rfl rfl rfl iI iI iI iI iI);intro g)|(refine fJ (aq.trans (aq.trans (aq.NP (v:= .slice A tx.length cap) 1 (by omega)) (aq.trans (by simp only[su,bb];exact ah) (tN _))) (aq.refl _)) ?_;refine ai (aa iI rfl p2 iI) rfl ?_;intro x5;refine z8 fun h5=> ?_))
   exact⟨_,⟨h5,rfl⟩,cG,rfl,ah⟩
  ·rw[if_neg h4]at iu
   simp only[su,bb]
   repeat' (first|refine ag (id:=1) (.range 8) ?_|(refine hK _ ?_;clear hK K)|refine ax ?_|(refine aF ?_ ?_<;>intro hc<;>(try simp only[cS]at hc)<;>(try exact aG))|refine aX ?_|refine az ?_|((refine' bk rfl rfl ?zh ?_);case zh=>intro F';exact fh rfl rfl iI iI iI iI iI (by assumption))|fail)
   refine⟨_,⟨h1,rfl⟩,cG,rfl,?_⟩
   rw[iu]
   refine aq.trans ?_ (FU _)
   simp only[su,bb]
   exact ah
 ·rintro τ ⟨h2,rfl⟩
  have F6:=Nd.qn s d Cm.1
  have Uv:s1.names=s.names:=by rw[iu,e1]
  have T0:s1.bI=s.bI:=by rw[iu,e2]
  have Uj:s1.last=s.last:=by rw[iu,e3]
  rw[←iu]at F6 es
  have RA:=gS zq d
  clear p1
  refine mc fun tL u7=> ?_
  refine BN d u7 fun A cap R hm FU mZ=> ?_
  obtain⟨tx,ZI⟩:∃tx,tx=s1.texts d:=⟨_,rfl⟩
  have qa:s1.put d t={s1 with wait:=bY s1.wait d (tx++[t])}:=by rw[ZI];rfl
  rw[←ZI]at hm FU F6 RA ⊢
  clear ZI
  have uZ:(s1.put d t).Inv:=by
   rw[qa]
   refine zq.put d _ (by simp;omega) fun x hx=> ?_
   rcases List.mem_append.1 hx with hx|hx
   ·exact RA.2 x hx
   ·simp at hx;subst hx;exact ht
  have hq:eS (s1.put d t).bu d=dK (·.dest) s1.bu d:=pa _ _
  rw[hq]at es
  cases hk:dK (·.dest) s1.bu d with
  |some k=>
   obtain⟨x,hx,Lx⟩:=fQ hk
   obtain⟨b,hb⟩:∃b,h2.sb[k]? =some b:=⟨_,List.getElem?_eq_getElem (by rw[tL];exact(List.getElem?_eq_some_iff.1 hx).1)⟩
   have SV:bX (nR h2.sb s1.bu) d=some b:=iD (key:=fun x:Sr=>x.dest) tL hk hb
   rw[hk]at es
   simp only at es
   simp only[su,bb]
   repeat' (first|refine ag (id:=5) (.range 7) ?_|(refine ab ?_;intro K hK)|(refine hK _ ?_;clear hK K)|refine ax ?_|(refine aF ?_ ?_<;>intro hc<;>(try simp only[cS]at hc)<;>(try exact aG))|refine az ?_|((first|refine' bP rfl rfl rfl ?zh ?_|refine' bk rfl rfl ?zh ?_);case zh=>intro F';first|exact bE rfl rfl iI|exact fh rfl rfl iI iI iI iI iI (by assumption)|exact fw rfl rfl iI iI iI iI iI (by assumption))|((refine' dP ?zh rfl rfl ?_);(case zh=>exact dt rfl rfl rfl iI iI iI iI iI);intro g)|(refine aD (au jk [t] iI iI iI rfl rfl rfl rfl rfl iI rfl rfl rfl) rfl rfl rfl ?_;intro vx)|(refine aD (wc rfl rfl iI iI rfl iI iI zU (by first|omega|(simp[al]<;>omega)) rfl) rfl rfl rfl ?_;intro pv)|(show WS _ _ _ (.region 4 _ true) _ _;refine yR gn bn bd bt (mp u32 cT h2.rw (jA h2.wv s1.wait)) [0,1,2,3,4,5,6,7,8,9,10,11,12,13,14] 14 [10] (by decide+kernel) rfl iI iI iI iI iI ?_))
   obtain⟨Bv,tN⟩:=mZ pv (tx++[t])
   refine aj (.inr rfl) rfl ⟨(),rfl,?_⟩
   rw[es,qa,ad (eD _ _)]
   refine aq.trans ?_ ((tN _).trans (aq.vi {h2 with wv:=Bv} (aq.refl _)))
   simp only[su,bb]
   exact ah
  |none=>
   have SV:bX (nR h2.sb s1.bu) d=none:=iC (key:=fun x:Sr=>x.dest) tL hk
   rw[hk]at es
   simp only at es
   have p5:=fun Bv=>DS w0 gn (s1.put d t) {h2 with wv:=Bv} d (hq.trans hk) uZ.sr uZ.dp.dp (by show 0≤s1.names∧s1.names≤_;rw[Uv];omega) uZ.order (by have:=uZ.aP;omega) (by show s1.bI.length≤_;rw[T0];omega) (by show 0≤s1.last∧s1.last≤_;rw[Uj];omega) (by exact⟨by have:=j7.aJ;show s1.out.aJ.length+3≤_;omega,by have:=j7.cj;show s1.out.cj.length+3≤_;omega,by have:=j7.dropped;show s1.out.dropped.length+3≤_;omega,by have:=j7.aI;show s1.aI.length+9*3≤_;omega,by have:=j7.ay;show s1.out.ay.length+120*3≤_;omega⟩)
   have WW:Nd.ask ((s1.put d t).eC d) (s1.put d t).bu.length ⟨d,1,0,false,(s1.put d t).names+1⟩=s.ea d t:=by rw[es];rfl
   rw[WW,qa]at p5
   simp only[su,bb]
   repeat' (first|refine ag (id:=5) (.range 7) ?_|(refine ab ?_;intro K hK)|(refine hK _ ?_;clear hK K)|refine ax ?_|(refine aF ?_ ?_<;>intro hc<;>(try simp only[cS]at hc)<;>(try exact aG))|refine az ?_|((first|refine' LQ ?zh rfl ?_|refine' bP rfl rfl rfl ?zh ?_|refine' bk rfl rfl ?zh ?_);case zh=>intro F';first|exact bE rfl rfl iI|exact fh rfl rfl iI iI iI iI iI (by assumption)|exact iw rfl rfl iI iI iI iI iI (by assumption))|((refine' dP ?zh rfl rfl ?_);(case zh=>exact dt rfl rfl rfl iI iI iI iI iI);intro g)|(refine aD (au jk [t] iI iI iI rfl rfl rfl rfl rfl iI rfl rfl rfl) rfl rfl rfl ?_;intro vx)|(refine aD (wc rfl rfl iI iI rfl iI iI zU (by first|omega|(simp[al]<;>omega)) rfl) rfl rfl rfl ?_;intro pv)|(show WS _ _ _ (.region 4 _ true) _ _;refine yR gn bn bd bt (mp u32 cT h2.rw (jA h2.wv s1.wait)) [0,1,2,3,4,5,6,7,8,9,10,11,12,13,14] 14 [10] (by decide+kernel) rfl iI iI iI iI iI ?_)|(obtain⟨Bv,tN⟩:=mZ pv (tx++[t]);refine fJ (aq.trans (by simp only[su,bb];exact ah) (tN (aK bn tn [ptr gn 0]*(aK bd td [u32 d]*(aK bt tt [aZ t]*G))))) ?_;refine ai (aa iI rfl (p5 Bv) iI) rfl ?_;intro x5))
   exact aj (.inr rfl) rfl ⟨(),rfl,by rw[ad (eD _ _)];exact ah⟩
end
section
open Go.RowKit
theorem Nd.lz {s:Nd} {c:Nat} (h:s.Rest c) (now:UInt64):(s.begin now).Fit 10:=by
 have h1:=Nd.fL s now h.inv.dp.dp
 have h2:=Nd.fK s now h.inv.dp.dp
 have h3:=h.aI
 exact⟨by rw[Nd.lk];simp,by rw[Nd.wM];simp,by rw[Nd.mC];simp,by omega,by omega⟩
attribute [local irreducible] WS LS cD eM cn cv Spec bA aK
variable (w0:World)
theorem EW (gn:Nat) (s:Nd) (now:UInt64) {c:Nat} (hr:s.Rest c) (hc:c≤8500) (hn:now.toNat≤4611686018427387904):Spec Tryz.prog w0 87 [ptr gn 0,u64 now] (jg gn s) (fun x:Value×Value×Value=>fp (s.iH now).out x) (fun x=>jg gn (s.iH now)*ei (s.iH now).out x):=by
 have hR:=hr.ready hc hn
 obtain⟨i,hi,hT⟩:=Nd.sO hR
 have h1:=hT.step.aI
 have h2:=hT.step.ay
 have h3:=Nd.fL s now hr.inv.dp.dp
 have h4:=Nd.fK s now hr.inv.dp.dp
 have h5:=hr.aI
 have h6:=hR.bI
 have p1:=fun bn bw=>pB w0 gn s ((s.begin now).tick now) now (by omega) hr.inv.dp.dp (by omega) (by omega) hT.inv.dp.dp 142 [ptr bn 0,ptr bw 0] _ _ (ZK w0 gn (s.begin now) now hR bn bw 90 24)
 unfold Nd.iH
 generalize ((s.begin now).tick now).done=s2 at p1 ⊢
 simp only[fp,ei]at p1 ⊢
 refine Spec.enter Tryz.func87 rfl Tryz.ntmps87 rfl fun G=> ?_
 simp only[aN]
 repeat' (first|(refine ab ?_;intro K hK)|(refine hK _ ?_;clear hK K)|refine ax ?_|refine az ?_|(refine bT ?_;intro g)|(refine bQ ?_;intro g)|(refine ai (aa iI rfl (p1 _ _) iI) rfl ?_;intro x))
 exact gD (.inl rfl) rfl (aS rfl iI iI rfl) ⟨x.1,rfl,ah⟩
theorem AV (gn:Nat) (s:Nd) (now:UInt64) (nb:UInt32) {c:Nat} (hr:s.Rest c):Spec Tryz.prog w0 136 [ptr gn 0,u64 now,u32 nb] (jg gn s) (fun x:Value×Value×Value=>fp (s.l7 now nb).out x) (fun x=>jg gn (s.l7 now nb)*ei (s.l7 now nb).out x):=by
 have hb:=hr.inv.begin now
 have hs:=Nd.Step.brk (s.begin now) nb
 have h1:=hs.aI
 have h2:=hs.ay
 have h3:=Nd.fL s now hr.inv.dp.dp
 have h4:=Nd.fK s now hr.inv.dp.dp
 have h5:=hr.aI
 have p1:=fun bn bx=>pB w0 gn s ((s.begin now).brk nb) now (by omega) hr.inv.dp.dp (by omega) (by omega) (hb.brk nb).dp.dp 193 [ptr bn 0,ptr bx 0] _ _ (GV w0 gn (s.begin now) nb hb.dp.dp ((Nd.lz hr now).le (by omega)) bn bx 90 26)
 unfold Nd.l7
 generalize ((s.begin now).brk nb).done=s2 at p1 ⊢
 simp only[fp,ei]at p1 ⊢
 refine Spec.enter Tryz.func136 rfl Tryz.ntmps136 rfl fun G=> ?_
 simp only[aN]
 repeat' (first|(refine ab ?_;intro K hK)|(refine hK _ ?_;clear hK K)|refine ax ?_|refine az ?_|(refine bT ?_;intro g)|(refine bQ ?_;intro g)|(refine ai (aa iI rfl (p1 _ _) iI) rfl ?_;intro x))
 exact gD (.inl rfl) rfl (aS rfl iI iI rfl) ⟨x.1,rfl,ah⟩
end
section
open Go.RowKit
def Nd.gA (s:Nd) (d:UInt32) (t:cP):Int:=if 16<t.length then 6 else if d=s.self∨d=0 then 2 else 0
def xQ:Value:= .agg #[aZ [],.bool false,.slice none 0 0,.slice none 0 0,.slice none 0 0]
attribute [local irreducible] WS LS cD eM cn cv Spec bA aK
variable (w0:World)
theorem CU (gn:Nat) (s:Nd) (now:UInt64) (d:UInt32) (t:cP) {c:Nat} (hr:s.Rest c) (hc:c≤8500) (hn:now.toNat≤4611686018427387904) (he:s.gA d t=0):Spec Tryz.prog w0 89 [ptr gn 0,u64 now,u32 d,aZ t] (jg gn s) (fun x:Value×Value×Value=> .tuple #[fp (s.iG now d t).out x,.int .i64 0]) (fun x=>jg gn (s.iG now d t)*ei (s.iG now d t).out x):=by
 have ht:t.length≤16:=by unfold Nd.gA at he;split at he;cases he;omega
 have hd:d≠s.self∧d≠0:=by
  unfold Nd.gA at he
  rw[if_neg (by omega)]at he
  split at he
  ·cases he
  ·rename_i h;exact⟨fun e=>h (.inl e),fun e=>h (.inr e)⟩
 obtain⟨Nb,rU⟩:=hd
 have hb:=hr.inv.begin now
 obtain⟨e1,e2,e3,e4,e5,e6⟩:=s.fM now
 have hs:=Nd.Step.KW hb d t
 have h1:=hs.aI
 have h2:=hs.ay
 have h3:=Nd.fL s now hr.inv.dp.dp
 have h4:=Nd.fK s now hr.inv.dp.dp
 have h5:=hr.aI
 have g1:=hr.names;have g2:=hr.bI;have g3:=hr.last
 have uZ:=hb.ea d t ht (by rw[e4];exact g1.1)
 have p1:=fun bn bd bt=>pB w0 gn s ((s.begin now).ea d t) now (by omega) hr.inv.dp.dp (by omega) (by omega) uZ.dp.dp 144 [ptr bn 0,ptr bd 0,ptr bt 0] _ _ (Ff w0 gn (s.begin now) d t ht hb (by rw[e4];omega) (by rw[e2];omega) (by rw[e3];omega) ((Nd.lz hr now).le (by omega)) bn bd bt 90 26 9)
 unfold Nd.iG
 generalize ((s.begin now).ea d t).done=s2 at p1 ⊢
 simp only[fp,ei]at p1 ⊢
 refine Spec.enter Tryz.func89 rfl Tryz.ntmps89 rfl fun G=> ?_
 refine rv fun h o=> ?_
 have p2:=fun bn bd bt=>(p1 bn bd bt).conv (X':=(aK gn 159 (bb 0 s h o)*(rows 28 3 Rec.cells h.vr s.aI*(mp u32 u32 h.rh s.held*(dR h.tb s.self s.ls*ba gn s h))))*(aK bn 90 [ptr gn 0]*(aK bd 26 [u32 d]*aK bt 9 [aZ t]))) (fun Z=>by rw[ad,ad (jg _ _)];exact jc h o (aq.refl _)) (fun _ _=>aq.refl _)
 simp only[aN,bb]at p2 ⊢
 clear p1
 have T1:¬d=s.self:=Nb
 have T2:¬d=0:=rU
 have O5:¬(16:Int)<(t.length:Int):=by omega
 repeat' (first|refine ag (id:=3) (.range 11) ?_|(refine ab ?_;intro K hK)|(refine hK _ ?_;clear hK K)|refine ax ?_|(refine aF ?_ ?_<;>intro hc<;>(try simp only[cS]at hc)<;>(try exact aG))|refine aX ?_|refine az ?_|(refine bT ?_;intro g)|(refine bQ ?_;intro g)|(refine ai (aa iI rfl (p2 _ _ _) iI) rfl ?_;intro x))
 exact dF (.inl rfl) rfl (aS rfl iI iI rfl) (bh rfl) ⟨x.1,rfl,ah⟩
theorem AZ (gn:Nat) (s:Nd) (now:UInt64) (d:UInt32) (t:cP) (he:s.gA d t≠0):Spec Tryz.prog w0 89 [ptr gn 0,u64 now,u32 d,aZ t] (jg gn s) (fun _:Unit=> .tuple #[xQ,.int .i64 (s.gA d t)]) (fun _=>jg gn s):=by
 refine Spec.enter Tryz.func89 rfl Tryz.ntmps89 rfl fun G=> ?_
 refine rv fun h o=> ?_
 simp only[aN,bb]
 unfold Nd.gA at he ⊢
 by_cases ht:16<t.length
 ·rw[if_pos ht]
  have O5:(16:Int)<(t.length:Int):=by omega
  repeat' (first|(refine ab ?_;intro K hK)|(refine hK _ ?_;clear hK K)|refine ax ?_|(refine aF ?_ ?_<;>intro hc<;>(try simp only[cS]at hc)<;>(try exact aG))|refine aX ?_|refine az ?_|(refine bT ?_;intro g)|(refine bQ ?_;intro g))
  exact dF (.inl rfl) rfl (aS rfl iI iI rfl) (bh rfl) ⟨(),rfl,by refine jc h o ?_;simp only[bb];exact ah⟩
 ·rw[if_neg ht]at he ⊢
  have O5:¬(16:Int)<(t.length:Int):=by omega
  have hd:d=s.self∨d=0:=by
   apply Classical.byContradiction
   intro hd
   rw[if_neg hd]at he
   exact he rfl
  rw[if_pos hd]
  by_cases Nb:d=s.self
  ·repeat' (first|refine ag (id:=3) (.range 11) ?_|(refine ab ?_;intro K hK)|(refine hK _ ?_;clear hK K)|refine ax ?_|(refine aF ?_ ?_<;>intro hc<;>(try simp only[cS]at hc)<;>(try exact aG))|refine aX ?_|refine az ?_|(refine bT ?_;intro g)|(refine bQ ?_;intro g))
   exact dF (.inl rfl) rfl (aS rfl iI iI rfl) (bh rfl) ⟨(),rfl,by refine jc h o ?_;simp only[bb];exact ah⟩
  ·have rU:d=0:=hd.resolve_left Nb
   repeat' (first|refine ag (id:=3) (.range 11) ?_|(refine ab ?_;intro K hK)|(refine hK _ ?_;clear hK K)|refine ax ?_|(refine aF ?_ ?_<;>intro hc<;>(try simp only[cS]at hc)<;>(try exact aG))|refine aX ?_|refine az ?_|(refine bT ?_;intro g)|(refine bQ ?_;intro g))
   exact dF (.inl rfl) rfl (aS rfl iI iI rfl) (bh rfl) ⟨(),rfl,by refine jc h o ?_;simp only[bb];exact ah⟩
end
end Go.Proofs.YtapoehkdnglahabGreat

/- A part of what Nodes needs. -/
import Derived.Test.YtapoehkdnglahabGreatNodesGl
set_option maxHeartbeats 16000000
set_option maxRecDepth 100000
set_option linter.unusedVariables false
set_option linter.unusedSimpArgs false
set_option linter.unusedSectionVars false
namespace Go.Proofs.YtapoehkdnglahabGreat
section
structure dx (me:UInt32) (ls:List Ln):Prop where
 dp:aW ls
 line:∀l∈ls,l.dest≠me∧(l.valid=false→l.before=[])
theorem CG {ls:List Ln} {d:UInt32} {f:Ln→Ln} {x:Ln} (h:x∈lP ls d f):x∈ls∨∃l∈ls,x=f l:=by
 cases hf:cN ls d with
 |none=>rw[lP,hf]at h;exact .inl h
 |some i=>
  obtain⟨l,hl,_⟩:=dw hf
  rw[fm hf hl]at h
  rcases List.mem_or_eq_of_mem_set h with h|rfl
  ·exact .inl h
  ·exact .inr ⟨l,List.mem_of_getElem? hl,rfl⟩
theorem ze {ls:List Ln} {i:Nat} {l x:Ln} (hl:ls[i]? =some l) (hd:x.dest=l.dest):aO (ls.set i x)=aO ls:=by
 obtain⟨bW,he⟩:=List.getElem?_eq_some_iff.1 hl
 unfold aO
 rw[List.map_set,hd,←he]
 apply List.ext_getElem?
 intro k
 rw[List.getElem?_set]
 split
 ·rename_i hk;subst hk;simp[bW]
 ·rfl
theorem nI {ls:List Ln} {d:UInt32} {f:Ln→Ln} (hd:∀l∈ls,(f l).dest=l.dest):aO (lP ls d f)=aO ls:=by
 cases hf:cN ls d with
 |none=>rw[lP,hf]
 |some i=>
  obtain⟨l,hl,_⟩:=dw hf
  rw[fm hf hl]
  exact ze hl (hd l (List.mem_of_getElem? hl))
theorem gY (ls:List Ln) (d:UInt32) (e:UInt64):aO (iY ls d e)=aO ls:=nI fun l _=>by split<;>rfl
theorem jE (ls:List Ln) (d nb:UInt32):aO (gF ls d nb)=aO ls:=nI fun l _=>by split<;>rfl
theorem wU (ls:List Ln) (d:UInt32):aO (ia ls d)=aO ls:=nI fun l _=>rfl
theorem wV (ls:List Ln) (a d s:UInt32):aO (iS ls a d s)=aO ls:=nI fun l _=>by split<;>rfl
theorem zd {ls:List Ln} {f:Ln→Ln} (hd:∀l∈ls,(f l).dest=l.dest):aO (ls.map f)=aO ls:=by
 unfold aO
 rw[List.map_map]
 exact List.map_congr_left hd
theorem zc (now:UInt64) (ls:List Ln):aO (mE now ls)=aO ls:=zd fun l _=>by unfold Ln.exp;split<;>rfl
theorem tA (nb:UInt32) (ls:List Ln):aO (nH nb ls)=aO ls:=zd fun l _=>by unfold Ln.brk;split<;>rfl
theorem Ha (ls:List Ln) (x:Ln):∀d∈aO ls,d∈aO (j8 ls x):=by
 intro d hd
 unfold j8
 cases hf:cN ls x.dest with
 |some i=>
  obtain⟨l,hl,he⟩:=dw hf
  rw[ze hl he.symm];exact hd
 |none=>simp only[aO,List.map_append]at hd ⊢;exact List.mem_append_left _ hd
theorem pz (self:UInt32) (ls:List Ln) (x:Ln):∀d∈aO ls,d∈aO (dI self ls x).2:=by
 intro d hd
 unfold dI
 repeat' split
 all_goals first|exact hd|exact Ha _ _ d hd
section
variable {self:UInt32} {ls:List Ln}
theorem dx.mod (h:dx self ls) {d:UInt32} {f:Ln→Ln} (ht:aW (lP ls d f)) (hd:∀l∈ls,(f l).dest=l.dest) (hv:∀l∈ls,(l.valid=false→l.before=[])→(f l).valid=false→(f l).before=[]):dx self (lP ls d f):=⟨ht,fun x hx=>by
 rcases CG hx with hx|⟨l,hl,rfl⟩
 ·exact h.line x hx
 ·exact⟨by rw[hd l hl];exact(h.line l hl).1,hv l hl (h.line l hl).2⟩⟩
theorem dx.use (h:dx self ls) (d:UInt32) (e:UInt64):dx self (iY ls d e):=h.mod (h.dp.use d e) (fun l _=>by split<;>rfl) (fun l _ k=>by split<;>simp_all)
theorem dx.FK (h:dx self ls) (d nb:UInt32):dx self (gF ls d nb):=h.mod (h.dp.FK d nb) (fun l _=>by split<;>rfl) (fun l _ k=>by split<;>simp_all)
theorem dx.bump (h:dx self ls) (d:UInt32):dx self (ia ls d):=h.mod (h.dp.bump d) (fun l _=>rfl) (fun l _ k=>k)
theorem dx.gI (h:dx self ls) (a d s:UInt32):dx self (iS ls a d s):=h.mod (h.dp.gI a d s) (fun l _=>by split<;>rfl) (fun l _ k=>by split<;>simp_all [Ln.ended])
theorem dx.map {f:Ln→Ln} (h:dx self ls) (ht:aW (ls.map f)) (hd:∀l∈ls,(f l).dest=l.dest) (hv:∀l∈ls,(l.valid=false→l.before=[])→(f l).valid=false→(f l).before=[]):dx self (ls.map f):=⟨ht,fun x hx=>by
 obtain⟨l,hl,rfl⟩:=List.mem_map.1 hx
 exact⟨by rw[hd l hl];exact(h.line l hl).1,hv l hl (h.line l hl).2⟩⟩
theorem dx.exp (h:dx self ls) (now:UInt64):dx self (mE now ls):=h.map (h.dp.exp now) (fun l _=>by unfold Ln.exp;split<;>rfl) (fun l _ k=>by unfold Ln.exp;split<;>simp_all [Ln.ended])
theorem dx.brk (h:dx self ls) (nb:UInt32):dx self (nH nb ls):=h.map (h.dp.brk nb) (fun l _=>by unfold Ln.brk;split<;>rfl) (fun l _ k=>by unfold Ln.brk;split<;>simp_all [Ln.ended])
theorem dx.put (h:dx self ls) {x:Ln} (ht:aW (j8 ls x)) (hx:x.dest≠self) (hb:x.valid=false→x.before=[]):dx self (j8 ls x):=⟨ht,fun y hy=>by
 unfold j8 at hy
 split at hy
 ·rcases List.mem_or_eq_of_mem_set hy with hy|rfl
  ·exact h.line y hy
  ·exact⟨hx,hb⟩
 ·rcases List.mem_append.1 hy with hy|hy
  ·exact h.line y hy
  ·simp at hy;subst hy;exact⟨hx,hb⟩⟩
theorem dx.La (h:dx self ls) (x:Ln) (h1:0≤x.aH∧x.aH≤1000):dx self (dI self ls x).2:=by
 have ht:=h.dp.La self x h1
 unfold dI at ht ⊢
 split
 ·exact h
 ·rename_i hc
  rw[if_neg hc]at ht
  cases hg:dG ls x.dest with
  |some l=>
   simp only[hg]at ht ⊢
   split
   ·exact h
   ·rename_i h2
    rw[if_neg h2]at ht
    exact h.put ht (fun e=>hc (.inl e)) (fun e=>by cases e)
  |none=>
   simp only[hg]at ht ⊢
   split
   ·exact h
   ·rename_i h2
    rw[if_neg h2]at ht
    exact h.put ht (fun e=>hc (.inl e)) (fun e=>by cases e)
theorem dx.bV (h:dx self ls) (src:UInt32) (l:List (UInt32×UInt32)):dx self (bV src ls l).1∧aO (Go.Proofs.YtapoehkdnglahabGreat.bV src ls l).1=aO ls:=by
 induction l using eE with
 |nil=>exact⟨h,rfl⟩
 |snoc l x ih=>
  rw[jX]
  exact⟨ih.1.gI _ _ _,by show aO (iS _ _ _ _)=_;rw[wV,ih.2]⟩
theorem dx.nil:dx self []:=⟨aW.nil,fun l h=>by cases h⟩
theorem dx.new (self:UInt32) (c:List Rec):dx self (iV self c):=by
 induction c using eE with
 |nil=>exact dx.nil
 |snoc c r ih=>
  have ht:=aW.new self (c++[r])
  rw[pJ]at ht ⊢
  unfold fe at ht ⊢
  split
  ·rename_i hc
   rw[if_pos hc]at ht
   exact ih.put ht (by simp only[Rec.ln];exact hc.2.1) (fun _=>rfl)
  ·exact ih
end
structure Nd.Inv (s:Nd):Prop where
 dp:dx s.self s.ls
 sr:l6 s
 order:s.order.length≤16
 wait:∀w∈s.wait,w.2.length≤4∧∀t∈w.2,t.length≤16
 aP:s.aP.length≤5
 aI:∀r∈s.aI,r.own=true∨r.addr∈aO s.ls
theorem Nd.Inv.to {s t:Nd} (h:s.Inv) (h1:dx t.self t.ls) (h2:t.bu=s.bu) (h3:t.names=s.names) (h4:t.order.length≤16) (h5:t.wait=s.wait) (h6:t.aP.length≤5) (h7:t.aI=s.aI) (h8:∀d∈aO s.ls,d∈aO t.ls):t.Inv:=
 ⟨h1,⟨by rw[h2];exact h.sr.aO,by rw[h2];exact h.sr.names,by rw[h2,h3];exact h.sr.each⟩,h4,by rw[h5];exact h.wait,h6,fun r hr=>by rw[h7]at hr;rcases h.aI r hr with h|h;exact .inl h;exact .inr (h8 _ h)⟩
theorem Nd.Inv.out {s:Nd} (h:s.Inv) (o:dS):Nd.Inv {s with out:=o}:=h.to h.dp rfl rfl h.order rfl h.aP rfl (fun _ h=>h)
theorem Nd.Inv.ls {s:Nd} (h:s.Inv) {l:List Ln} (h1:dx s.self l) (h2:∀d∈aO s.ls,d∈aO l):Nd.Inv {s with ls:=l}:=h.to h1 rfl rfl h.order rfl h.aP rfl h2
theorem Nd.Inv.send {s:Nd} (h:s.Inv) (to:UInt32) (p:Pk):(s.send to p).Inv:=h.out _
theorem Nd.Inv.drop {s:Nd} (h:s.Inv) (r:Int):(s.drop r).Inv:=h.out _
theorem Nd.Inv.write {s:Nd} (h:s.Inv) (r:Rec) (hr:r.own=true∨r.addr∈aO s.ls):(s.write r).Inv:=⟨h.dp,⟨h.sr.aO,h.sr.names,h.sr.each⟩,h.order,h.wait,h.aP,fun x hx=>by
 rcases List.mem_append.1 hx with hx|hx
 ·exact h.aI x hx
 ·simp at hx;subst hx;exact hr⟩
theorem Nd.Inv.cf {s:Nd} (h:s.Inv) (l:Ln) (hl:l.dest∈aO s.ls):(s.cf l).Inv:=by
 unfold Nd.cf
 repeat' split
 all_goals first|exact h.write _ (.inr hl)|exact h
theorem Nd.Inv.oW (L:List Ln):∀{s:Nd},s.Inv→(∀l∈L,l.dest∈aO s.ls)→(L.foldl Nd.cf s).Inv:=by
 induction L with
 |nil=>intro s h _;exact h
 |cons l L ih=>intro s h hl;exact ih (h.cf l (hl l (by simp))) (fun x hx=>by rw[Nd.Kz];exact hl x (by simp[hx]))
theorem Nd.Inv.dh {s:Nd} (h:s.Inv):s.dh.Inv:=by
 unfold Nd.dh
 split
 ·exact h.write _ (.inl rfl)
 ·exact h
theorem lO {ls:List Ln} {l:Ln} (h:l∈cE ls):l∈ls:=by
 unfold cE at h
 obtain⟨d,_,hd⟩:=List.mem_filterMap.1 h
 unfold dG at hd
 cases hf:cN ls d with
 |none=>rw[hf]at hd;cases hd
 |some i=>rw[hf]at hd;exact List.mem_of_getElem? hd
theorem Nd.Inv.note {s:Nd} (h:s.Inv):s.note.Inv:=Nd.Inv.oW _ h.dh fun l hl=>by
 rw[Nd.xO]
 exact List.mem_map_of_mem (lO hl)
theorem Nd.Inv.aT {s:Nd} (h:s.Inv) (r:Rq):(s.aT r).Inv:=by
 have hl:=mJ s.now s.seen s.order
 have ho:=h.order
 unfold Nd.aT
 dsimp only
 split
 ·rename_i h1
  exact h.to h.dp rfl rfl h1 rfl h.aP rfl (fun _ h=>h)
 ·refine h.to h.dp rfl rfl ?_ rfl h.aP rfl (fun _ h=>h)
  rename_i h1
  generalize hq:ib _ _ _=i
  have hi:i<((dg s.now s.seen s.order).2++[r]).length:=by rw[←hq];exact nL _ _ _ (Nat.le_refl _) (by simp)
  simp only[List.length_append,List.length_cons,List.length_nil,List.length_take,List.length_drop]at*
  omega
theorem Nd.Inv.hand {s:Nd} (h:s.Inv) (d:UInt32) (t:cP):(s.hand d t).Inv:=by
 unfold Nd.hand
 split
 ·exact h
 ·exact h.to (h.dp.use _ _) rfl rfl h.order rfl h.aP rfl (fun x hx=>by rw[gY];exact hx)
theorem Nd.Inv.bg {s:Nd} (h:s.Inv) (d:UInt32) (l:List cP):(s.bg d l).Inv:=by
 induction l using eE with
 |nil=>exact h
 |snoc l t ih=>rw[Nd.dX];exact ih.hand _ _
theorem Nd.Inv.cX {s:Nd} (h:s.Inv) (d:UInt32):(s.cX d).Inv:=⟨h.dp,⟨h.sr.aO,h.sr.names,h.sr.each⟩,h.order,fun w hw=>h.wait w ((sg s.wait d).subset hw),h.aP,h.aI⟩
theorem Nd.Inv.stop {s:Nd} (h:s.Inv) (k:Nat):(s.stop k).Inv:=⟨h.dp,⟨h.sr.aO.sublist ((List.eraseIdx_sublist _ _).map _),h.sr.names.sublist ((List.eraseIdx_sublist _ _).map _),fun x hx=>h.sr.each x ((List.eraseIdx_sublist _ _).subset hx)⟩,h.order,h.wait,h.aP,h.aI⟩
theorem Nd.Inv.flush {s:Nd} (h:s.Inv) (d:UInt32):(s.flush d).Inv:=by
 unfold Nd.flush
 simp only
 split
 ·exact((h.bg _ _).cX _).stop _
 ·exact(h.bg _ _).cX _
theorem Nd.Inv.NN {s:Nd} (h:s.Inv) {k:Nat} {x y:Sr} (hx:s.bu[k]? =some x) (h1:y.dest=x.dest) (h2:y.name=x.name) (h3:0≤y.bK∧y.bK≤8∧0≤y.aU∧y.aU≤2):Nd.Inv {s with bu:=s.bu.set k y}:=by
 obtain⟨bW,he⟩:=List.getElem?_eq_some_iff.1 hx
 have e1:(s.bu.set k y).map (·.dest)=s.bu.map (·.dest):=by
  rw[List.map_set,h1,←he]
  apply List.ext_getElem?
  intro j;rw[List.getElem?_set];split
  ·rename_i e;subst e;simp[bW]
  ·rfl
 have e2:(s.bu.set k y).map (·.name)=s.bu.map (·.name):=by
  rw[List.map_set,h2,←he]
  apply List.ext_getElem?
  intro j;rw[List.getElem?_set];split
  ·rename_i e;subst e;simp[bW]
  ·rfl
 refine⟨h.dp,⟨by show((s.bu.set k y).map _).Nodup;rw[e1];exact h.sr.aO,by show((s.bu.set k y).map _).Nodup;rw[e2];exact h.sr.names,fun z hz=> ?_⟩,h.order,h.wait,h.aP,h.aI⟩
 rcases List.mem_or_eq_of_mem_set hz with hz|rfl
 ·exact h.sr.each z hz
 ·have:=(h.sr.each x (List.mem_of_getElem? hx)).2.2.2.2
  exact⟨h3.1,h3.2.1,h3.2.2.1,h3.2.2.2,by rw[h2];exact this⟩
theorem Nd.Inv.cH {s:Nd} (h:s.Inv) {k:Nat} {x:Sr} (hx:s.bu[k]? =some x) (b:Bool):(s.cH k b).Inv:=by
 unfold Nd.cH
 rw[xG hx]
 have:=h.sr.each x (List.mem_of_getElem? hx)
 exact h.NN hx rfl rfl ⟨this.1,this.2.1,this.2.2.1,this.2.2.2.1⟩
theorem Nd.Inv.arm {s:Nd} (h:s.Inv) (k:Int) (w:UInt64):(s.arm k w).Inv:=h.to h.dp rfl rfl h.order rfl h.aP rfl (fun _ h=>h)
theorem Bm (l:List UInt64) (h:l.length≤6):(ik l).length≤5:=by
 unfold ik
 split
 ·simp;omega
 ·omega
theorem Nd.Inv.gE {s:Nd} (h:s.Inv) (x:Sr):(s.gE x).Inv:=by
 unfold Nd.gE
 simp only
 have h0:Nd.Inv {s with seq:=bS s.seq}:=h.to h.dp rfl rfl h.order rfl h.aP rfl (fun _ h=>h)
 have h1:=h0.note
 generalize Nd.note {s with seq:=bS s.seq}=t at*
 have h2:Nd.Inv {t with ids:=t.ids+1,aP:=ik (t.aP++[t.now])}:=h1.to h1.dp rfl rfl h1.order rfl (Bm _ (by have:=h1.aP;simp;omega)) rfl (fun _ h=>h)
 generalize ({t with ids:=t.ids+1,aP:=ik (t.aP++[t.now])}:Nd)=u at*
 exact(h2.send _ _).aT _
theorem Nd.Inv.ask {s:Nd} (h:s.Inv) {k:Nat} {x:Sr} (hx:s.bu[k]? =some x):(s.ask k x).Inv:=by
 unfold Nd.ask
 split
 ·exact((h.cH hx _).drop _).arm _ _
 ·split
  ·exact((h.cH hx _).drop _).arm _ _
  ·exact((h.cH hx _).gE _).arm _ _
theorem Sr.xb {x y:Sr} (h:x.iN=some y) (hx:0≤x.bK∧x.bK≤8∧0≤x.aU∧x.aU≤2):y.dest=x.dest∧y.name=x.name∧y.out=x.out∧0≤y.bK∧y.bK≤8∧0≤y.aU∧y.aU≤2:=by
 unfold Sr.iN at h
 split at h
 ·cases h;simp only;exact⟨trivial,trivial,trivial,by omega,by omega,by omega,by omega⟩
 ·split at h
  ·cases h;simp only;exact⟨trivial,trivial,trivial,by omega,by omega,by omega,by omega⟩
  ·split at h
   ·cases h;simp only;exact⟨trivial,trivial,trivial,by omega,by omega,by omega,by omega⟩
   ·cases h
theorem Nd.Inv.dy {s:Nd} (h:s.Inv) (n:Nat) (k:Int):(s.dy n k).Inv:=h.out _
theorem Nd.Inv.again {s:Nd} (h:s.Inv) {k:Nat} {x:Sr} (hx:s.bu[k]? =some x):(s.again k x).Inv:=by
 have S8:=h.sr.each x (List.mem_of_getElem? hx)
 unfold Nd.again
 split
 ·exact h.flush _
 ·split
  ·split
   ·rename_i y hy
    obtain⟨f1,f2,_,f3⟩:=Sr.xb hy ⟨S8.1,S8.2.1,S8.2.2.1,S8.2.2.2.1⟩
    exact(h.NN hx f1 f2 f3).ask (by show(s.bu.set k y)[k]? =some y;rw[List.getElem?_set];simp[(List.getElem?_eq_some_iff.1 hx).1])
   ·exact((h.dy _ _).cX _).stop _
  ·exact h.ask hx
theorem Nd.Inv.answer {s:Nd} (h:s.Inv) (p:Pk):(s.answer p).Inv:=by
 unfold Nd.answer
 split
 ·exact h.send _ _
 ·exact h.drop _
theorem Nd.Inv.gR {s:Nd} (h:s.Inv) (p:Pk):(s.gR p).Inv:=by
 unfold Nd.gR
 split
 ·exact h.drop _
 ·split<;>exact h.send _ _
theorem Nd.Inv.jy {s:Nd} (h:s.Inv) (p:Pk):(s.jy p).Inv:=by
 unfold Nd.jy
 split
 ·refine Nd.Inv.answer ?_ _
  exact h.to h.dp rfl rfl h.order rfl h.aP rfl (fun _ h=>h)
 ·split
  ·split
   ·refine Nd.Inv.answer (h.ls ?_ ?_) _
    ·refine dx.FK ?_ _ _
     split
     ·exact h.dp.FK _ _
     ·exact h.dp
    ·intro d hd
     rw[jE]
     split
     ·rw[jE];exact hd
     ·exact hd
   ·exact h.gR _
  ·exact h.gR _
theorem Nd.Inv.qd {s:Nd} (h:s.Inv) (src:UInt32) (p:Pk) (hp:0≤p.aH∧p.aH≤255):(s.qd src p).Inv:=by
 unfold Nd.qd
 split
 ·exact h.drop _
 ·simp only
  have h1:=h.aT ⟨p.from_,p.id⟩
  generalize s.aT ⟨p.from_,p.id⟩=s1 at*
  have hu:dx s1.self (s1.Sg src p).2:=h1.dp.La _ (by simp only[Ln.bj,xp];omega)
  have hd:=pz s1.self s1.ls (Ln.bj p.from_ p.av (xp p) src s1.ir)
  split
  ·exact(h1.ls hu hd).drop _
  ·refine Nd.Inv.jy (h1.ls ?_ ?_) _
   ·split
    ·exact hu.use _ _
    ·exact hu
   ·intro d Nb
    split
    ·rw[gY];exact hd d Nb
    ·exact hd d Nb
theorem Nd.Inv.lost {s:Nd} (h:s.Inv) (l:List (UInt32×UInt32)):(s.lost l).Inv:=by
 unfold Nd.lost
 split
 ·exact h.send _ _
 ·exact h
theorem Nd.Inv.xC {s:Nd} (h:s.Inv) (src:UInt32) (p:Pk):(s.xC src p).Inv:=by
 unfold Nd.xC
 obtain⟨h1,h2⟩:=h.dp.bV src p.lost
 have h3:=(h.ls h1 (fun d hd=>by rw[h2];exact hd)).lost (bV src s.ls p.lost).2.1
 simp only
 split
 ·exact h3
 ·exact h3.drop _
theorem Nd.Inv.ov {s:Nd} (h:s.Inv) (src:UInt32) (p:Pk):(s.ov src p).Inv:=by
 unfold Nd.ov
 split
 ·exact h.out _
 ·split
  ·exact h.drop _
  ·split
   ·exact((h.drop 3).ls (h.dp.bump _) (fun d hd=>by rw[wU];exact hd)).send _ _
   ·exact(h.send _ _).ls ((h.dp.use _ _).use _ _) (fun d hd=>by rw[gY,gY];exact hd)
theorem Nd.Inv.brk {s:Nd} (h:s.Inv) (nb:UInt32):(s.brk nb).Inv:=(h.ls (h.dp.brk _) (fun d hd=>by rw[tA];exact hd)).lost _
theorem Nd.Inv.rep {s:Nd} (h:s.Inv) (src:UInt32) (p:Pk) (hp:0≤p.aH∧p.aH≤255):(s.rep src p).Inv:=by
 unfold Nd.rep
 split
 ·exact h.drop _
 ·simp only
  have hu:dx s.self (dI s.self s.ls (Ln.bj p.dest p.ak (xp p) src (s.now+p.bD.toUInt64))).2:=h.dp.La _ (by simp only[Ln.bj,xp];omega)
  have hd:=pz s.self s.ls (Ln.bj p.dest p.ak (xp p) src (s.now+p.bD.toUInt64))
  have h1:=h.ls hu hd
  generalize dI s.self s.ls (Ln.bj p.dest p.ak (xp p) src (s.now+p.bD.toUInt64))=u at*
  split
  ·exact h1.drop _
  ·split
   ·have h2:Nd.Inv (if(bR u.2 p.dest s.now).isSome then Nd.flush {s with ls:=u.2} p.dest else {s with ls:=u.2}):=by
     split
     ·exact h1.flush _
     ·exact h1
    split
    ·exact h2.drop _
    ·exact h2
   ·split
    ·split<;>exact h1.drop _
    ·split
     ·exact h1.drop _
     ·exact(h1.send _ _).ls (((hu.FK _ _).FK _ _).use _ _) (fun d hd=>by rw[gY,jE,jE];exact hd)
theorem Nd.Inv.handle {s:Nd} (h:s.Inv) (src:UInt32) (p:Pk) (hp:0≤p.aH∧p.aH≤255):(s.handle src p).Inv:=by
 unfold Nd.handle
 repeat' split
 ·exact h.qd _ _ hp
 ·exact h.rep _ _ hp
 ·exact h.xC _ _
 ·exact h.ov _ _
theorem Nd.Inv.gQ {s:Nd} (h:s.Inv) (now:UInt64) (src:UInt32) (f:cP):(s.gQ now src f).Inv:=by
 unfold Nd.gQ
 split
 ·exact h.drop _
 ·split
  ·exact h.drop _
  ·split
   ·refine Nd.Inv.drop ?_ _
    exact h.to h.dp rfl rfl h.order rfl h.aP rfl (fun _ h=>h)
   ·exact h.drop _
theorem Nd.Inv.eC {s:Nd} (h:s.Inv) (d:UInt32) (hd:eS s.bu d=none) (h0:0≤s.names):(s.eC d).Inv:=by
 rw[pa]at hd
 have h1:=qJ.1 hd
 refine⟨h.dp,⟨?_,?_,?_⟩,h.order,h.wait,h.aP,h.aI⟩
 ·show((s.bu++[_]).map _).Nodup
  rw[List.map_append]
  exact List.nodup_append.2 ⟨h.sr.aO,by simp,fun a ha b hb=>by simp at hb;subst hb;obtain⟨x,hx,rfl⟩:=List.mem_map.1 ha;exact h1 x hx⟩
 ·show((s.bu++[_]).map _).Nodup
  rw[List.map_append]
  exact List.nodup_append.2 ⟨h.sr.names,by simp,fun a ha b hb=>by simp at hb;subst hb;obtain⟨x,hx,rfl⟩:=List.mem_map.1 ha;have:=(h.sr.each x hx).2.2.2.2;omega⟩
 ·intro x hx
  show _∧_∧_∧_∧x.name≤s.names+1
  rcases List.mem_append.1 hx with hx|hx
  ·have:=h.sr.each x hx;omega
  ·simp at hx;subst hx;simp
end
section
def kb (d:UInt32):List da→Nat
 |[]=>0
 |p::r=>if p.1.dest<d then kb d r+1 else 0
def fj (xs:List da) (d:UInt32):Option da:=match xs[kb d xs]? with
 |some p=>if p.1.dest=d then some p else none
 |none=>none
theorem DP (d:UInt32):∀xs:List da,kb d xs≤xs.length
 |[]=>Nat.le_refl _
 |p::r=>by
  unfold kb
  have:=DP d r
  split<;>simp<;>omega
theorem DQ (d:UInt32):∀(xs:List da) (i:Nat) p,i<kb d xs→xs[i]? =some p→p.1.dest<d
 |[],i,p,h,_=>by simp[kb]at h
 |q::r,i,p,h,hp=>by
  unfold kb at h
  split at h
  ·rename_i hq
   cases i with
   |zero=>simp at hp;subst hp;exact hq
   |succ i=>exact DQ d r i p (by omega) (by simpa using hp)
  ·omega
theorem wJ (d:UInt32):∀(xs:List da) p,xs[kb d xs]? =some p→¬p.1.dest<d
 |[],p,h=>by simp[kb]at h
 |q::r,p,h=>by
  unfold kb at h
  split at h
  ·exact wJ d r p (by simpa using h)
  ·rename_i hq
   simp at h;subst h;exact hq
theorem Ak {d:UInt32} {xs:List da} {i:Nat} (h1:i≤xs.length) (h2:∀j p,j<i→xs[j]? =some p→p.1.dest<d) (h3:∀p,xs[i]? =some p→¬p.1.dest<d):kb d xs=i:=by
 have a1:=DP d xs
 rcases Nat.lt_trichotomy (kb d xs) i with h|h|h
 ·obtain⟨p,hp⟩:∃p,xs[kb d xs]? =some p:=⟨_,List.getElem?_eq_getElem (by omega)⟩
  exact absurd (h2 _ p h hp) (wJ d xs p hp)
 ·exact h
 ·obtain⟨p,hp⟩:∃p,xs[i]? =some p:=⟨_,List.getElem?_eq_getElem (by omega)⟩
  exact absurd (DQ d xs i p h hp) (h3 p hp)
theorem fl {xs:List da} {d:UInt32} {p:da} (h:fj xs d=some p):xs[kb d xs]? =some p∧p.1.dest=d:=by
 unfold fj at h
 split at h
 ·rename_i q hq
  split at h
  ·cases h;rename_i e;exact⟨hq,e⟩
  ·cases h
 ·cases h
end
section
open Go.RowKit
@[reducible] def eA (g:Nat) (self:UInt32) (v:Value) (xs:List da):af:=aK g 197 [u32 self,v]*rows 53 7 bJ v xs
attribute [local irreducible] WS LS cD eM cn cv Spec bA aK
variable (w0:World)
theorem iF (g:Nat) (self:UInt32) (v:Value) (xs:List da) (hl:xs.length≤100) (d:UInt32):Spec Tryz.prog w0 184 [ptr g 0,u32 d] (eA g self v xs) (fun _:Unit=> .tuple #[.int .i64 (kb d xs:Int),.bool (fj xs d).isSome]) (fun _=>eA g self v xs):=by
 refine Spec.enter Tryz.func184 rfl Tryz.ntmps184 rfl fun G=> ?_
 unfold eA
 simp only[aN,ad]
 repeat' (first|(refine ab ?_;intro K hK)|(refine hK _ ?_;clear hK K)|refine ax ?_|refine az ?_)
 refine aV (fun kk τ=>∃(i:Nat),i+kk=xs.length∧(∀j p,j<i→xs[j]? =some p→p.1.dest<d)∧τ=⟨[(6,.int .i64 (i:Int)),(1,u32 d),(0,ptr g 0)],[],aK g 197 [u32 self,v]*(rows 53 7 bJ v xs*G)⟩) ?_ ?_
 ·exact⟨xs.length,_,⟨0,by omega,fun j p h=>absurd h (by omega),rfl⟩,cG,rfl,ah⟩
 ·rintro kk τ ⟨i,qE,bW,rfl⟩
  rcases Nat.lt_or_ge i xs.length with h|h
  ·have h1:(i:Int)<(xs.length:Int):=by omega
   obtain⟨p,hp⟩:∃p,xs[i]? =some p:=⟨_,List.getElem?_eq_getElem h⟩
   by_cases hd:p.1.dest<d
   ·repeat' (first|(refine ab ?_;intro K hK)|(refine hK _ ?_;clear hK K)|refine ax ?_|(refine aF ?_ ?_<;>intro hc<;>(try simp only[cS]at hc)<;>(try exact aG))|refine aX ?_|refine az ?_)
    exact⟨kk - 1,_,by omega,⟨i+1,by omega,fun j q hj hq=>by
     rcases Nat.lt_or_ge j i with h2|h2
     ·exact bW j q h2 hq
     ·obtain rfl:j=i:=by omega
      rw[hp]at hq;cases hq;exact hd,rfl⟩,cG,rfl,ah⟩
   ·have he:kb d xs=i:=Ak (by omega) bW fun q hq=>by rw[hp]at hq;cases hq;exact hd
    by_cases hq:p.1.dest=d
    ·have hg:fj xs d=some p:=by unfold fj;rw[he,hp];simp[hq]
     repeat' (first|refine ag (id:=4) (.range 22) ?_|(refine ab ?_;intro K hK)|(refine hK _ ?_;clear hK K)|refine ax ?_|(refine aF ?_ ?_<;>intro hc<;>(try simp only[cS]at hc)<;>(try exact aG))|refine aX ?_|refine az ?_)
     exact de (.inl rfl) rfl rfl rfl ⟨(),by rw[he,hg];rfl,ah⟩
    ·have hg:fj xs d=none:=by unfold fj;rw[he,hp];simp[hq]
     repeat' (first|refine ag (id:=4) (.range 22) ?_|(refine ab ?_;intro K hK)|(refine hK _ ?_;clear hK K)|refine ax ?_|(refine aF ?_ ?_<;>intro hc<;>(try simp only[cS]at hc)<;>(try exact aG))|refine aX ?_|refine az ?_)
     exact de (.inl rfl) rfl rfl rfl ⟨(),by rw[he,hg];rfl,ah⟩
  ·obtain rfl:i=xs.length:=by omega
   have h1:¬(xs.length:Int)<(xs.length:Int):=by omega
   have he:kb d xs=xs.length:=Ak (Nat.le_refl _) bW fun q hq=>by rw[List.getElem?_eq_none (Nat.le_refl _)]at hq;cases hq
   have hg:fj xs d=none:=by unfold fj;rw[he,List.getElem?_eq_none (Nat.le_refl _)]
   repeat' (first|refine ag (id:=4) (.range 22) ?_|(refine ab ?_;intro K hK)|(refine hK _ ?_;clear hK K)|refine ax ?_|(refine aF ?_ ?_<;>intro hc<;>(try simp only[cS]at hc)<;>(try exact aG))|refine aX ?_|refine az ?_)
   exact de (.inl rfl) rfl rfl rfl ⟨(),by rw[he,hg];rfl,ah⟩
def xY (p:da):Value:= .agg (bJ p).toArray
theorem xZ (p:da):Spec Tryz.prog w0 220 [xY p] emp (fun _:Unit=> .int .i64 p.1.rk) (fun _=>emp):=by
 refine Spec.enter Tryz.func220 rfl Tryz.ntmps220 rfl fun G=> ?_
 simp only[aN]
 have hq:=p.1.seq.toNat_lt
 cases hv:p.1.valid with
 |true=>
  have hr:p.1.rk=(p.1.seq.toNat:Int):=by unfold Ln.rk;rw[if_pos hv]
  rw[hr]
  unfold xY bJ bM
  repeat' (first|(refine ab ?_;intro K hK)|(refine hK _ ?_;clear hK K)|refine ax ?_|(refine aF ?_ ?_<;>intro hc<;>(try simp only[cS]at hc)<;>(try exact aG))|refine az ?_|(refine bT ?_;intro g)|(refine lI (lx rfl iI iI iI) rfl ?_))
  exact aC (.inl rfl) rfl rfl ⟨(),rfl,ah⟩
 |false=>
  have hr:p.1.rk=(p.1.seq.toNat:Int) - 1:=by unfold Ln.rk;rw[if_neg (by rw[hv];simp)]
  rw[hr]
  unfold xY bJ bM
  repeat' (first|(refine ab ?_;intro K hK)|(refine hK _ ?_;clear hK K)|refine ax ?_|(refine aF ?_ ?_<;>intro hc<;>(try simp only[cS]at hc)<;>(try exact aG))|refine az ?_|(refine bT ?_;intro g)|(refine lI (lx rfl iI iI iI) rfl ?_))
  exact aC (.inl rfl) rfl rfl ⟨(),rfl,ah⟩
theorem kL (x:UInt32):Spec Tryz.prog w0 93 [u32 x] emp (fun _:Unit=>u32 (bS x)) (fun _=>emp):=by
 refine Spec.enter Tryz.func93 rfl Tryz.ntmps93 rfl fun G=> ?_
 simp only[aN]
 by_cases h:x=4294967295
 ·have e:bS x=x:=by subst h;rfl
  rw[e]
  repeat' (first|(refine ab ?_;intro K hK)|(refine hK _ ?_;clear hK K)|refine ax ?_|(refine aF ?_ ?_<;>intro hc<;>(try simp only[cS]at hc)<;>(try exact aG))|refine aX ?_|refine az ?_)
  exact aC (.inl rfl) rfl rfl ⟨(),rfl,ah⟩
 ·have e:bS x=x+1:=by
   unfold bS
   rw[if_neg]
   intro h2
   apply h
   have:=congrArg UInt32.toNat h2
   rw[UInt32.toNat_add]at this
   have hx:=x.toNat_lt
   apply UInt32.toNat_inj.1
   have h3:(4294967295:UInt32).toNat=4294967295:=rfl
   have h4:(1:UInt32).toNat=1:=rfl
   have h5:(0:UInt32).toNat=0:=rfl
   omega
  rw[e]
  repeat' (first|(refine ab ?_;intro K hK)|(refine hK _ ?_;clear hK K)|refine ax ?_|(refine aF ?_ ?_<;>intro hc<;>(try simp only[cS]at hc)<;>(try exact aG))|refine aX ?_|refine az ?_|((refine' LQ ?zh rfl ?_);case zh=>intro F';exact bE rfl rfl iI)|fail)
  exact aC (.inl rfl) rfl rfl ⟨(),rfl,ah⟩
def lp (s:UInt32) (p:da):da:=(p.1.ended s,(none,0))
theorem yb {xs:List da} {i:Nat} {z:da} (h:i<xs.length):(xs.set i z)[i]? =some z:=by simp[h]
theorem wZ (q:UInt32) (p:da) (n:UInt32) (hn:n=max (bS p.1.seq) q):iW (bJ (({p.1 with seq:=n,valid:=false,cB:=0}:Ln),p.2)) 6 [.slice none 0 0]=some (bJ (lp q p)):=by
 subst hn
 have e:(aQ ([]:List UInt32)).length=0:=by rw[cF];rfl
 show some [_,_,_,_,_,_,_]=some [_,_,_,_,_,_,_]
 unfold lp Ln.ended il
 rw[e]
theorem uc (g:Nat) (self:UInt32) (v:Value) (xs:List da) (hl:xs.length≤100) (i:Nat) (p:da) (hp:xs[i]? =some p) (q:UInt32):Spec Tryz.prog w0 195 [ptr g 0,.int .i64 (i:Int),u32 q] (eA g self v xs) (fun _:Unit=> .tuple #[]) (fun _=>eA g self v (xs.set i (lp q p))):=by
 refine Spec.enter Tryz.func195 rfl Tryz.ntmps195 rfl fun G=> ?_
 unfold eA
 simp only[aN,ad]
 have hi:i<xs.length:=(List.getElem?_eq_some_iff.1 hp).1
 have p1:=kL w0 p.1.seq
 have key:∀n:UInt32,n=max (bS p.1.seq) q→((xs.set i (({p.1 with seq:=n}:Ln),p.2))[i]? =some (({p.1 with seq:=n}:Ln),p.2)∧((xs.set i (({p.1 with seq:=n}:Ln),p.2)).set i (({p.1 with seq:=n,valid:=false}:Ln),p.2))[i]? =some (({p.1 with seq:=n,valid:=false}:Ln),p.2)∧(((xs.set i (({p.1 with seq:=n}:Ln),p.2)).set i (({p.1 with seq:=n,valid:=false}:Ln),p.2)).set i (({p.1 with seq:=n,valid:=false,cB:=0}:Ln),p.2))[i]? =some (({p.1 with seq:=n,valid:=false,cB:=0}:Ln),p.2)∧((((xs.set i (({p.1 with seq:=n}:Ln),p.2)).set i (({p.1 with seq:=n,valid:=false}:Ln),p.2)).set i (({p.1 with seq:=n,valid:=false,cB:=0}:Ln),p.2)).set i (lp q p))=xs.set i (lp q p)):=fun n _=>by
  refine⟨yb hi,?_,?_,?_⟩<;>simp[hi]
 by_cases hq:bS p.1.seq<q
 ·have hm:q=max (bS p.1.seq) q:=by
   apply UInt32.toNat_inj.1
   have h2:(bS p.1.seq).toNat<q.toNat:=hq
   show q.toNat=(if bS p.1.seq≤q then q else bS p.1.seq).toNat
   rw[if_pos (UInt32.le_of_lt hq)]
  obtain⟨k1,k2,k3,k4⟩:=key q hm
  have e6:=wZ q p q hm
  repeat' (first|(refine ab ?_;intro K hK)|(refine hK _ ?_;clear hK K)|refine ax ?_|(refine aF ?_ ?_<;>intro hc<;>(try simp only[cS]at hc)<;>(try exact aG))|refine aX ?_|refine az ?_|(refine ai (aa iI rfl p1 ⟨aB.symm⟩) rfl ?_;intro u1)|(refine bL (dB (z:=p) (({p.1 with seq:=q}:Ln),p.2) rfl rfl iI iI iI rfl hp rfl) ?_;intro g1)|(refine bL (dB (({p.1 with seq:=q,valid:=false}:Ln),p.2) rfl rfl iI iI iI rfl k1 rfl) ?_;intro g2)|(refine bL (dB (({p.1 with seq:=q,valid:=false,cB:=0}:Ln),p.2) rfl rfl iI iI iI rfl k2 rfl) ?_;intro g3)|(refine bL (dB (lp q p) rfl rfl iI iI iI rfl k3 e6) ?_;intro g4))
  exact aj (.inr rfl) rfl ⟨(),rfl,by rw[k4];exact ah⟩
 ·have hm:bS p.1.seq=max (bS p.1.seq) q:=by
   apply UInt32.toNat_inj.1
   have h2:¬(bS p.1.seq).toNat<q.toNat:=hq
   show(bS p.1.seq).toNat=(if bS p.1.seq≤q then q else bS p.1.seq).toNat
   split
   ·rename_i h3
    have h4:(bS p.1.seq).toNat≤q.toNat:=h3
    omega
   ·rfl
  obtain⟨k1,k2,k3,k4⟩:=key (bS p.1.seq) hm
  have e6:=wZ q p (bS p.1.seq) hm
  generalize bS p.1.seq=n at*
  repeat' (first|(refine ab ?_;intro K hK)|(refine hK _ ?_;clear hK K)|refine ax ?_|(refine aF ?_ ?_<;>intro hc<;>(try simp only[cS]at hc)<;>(try exact aG))|refine aX ?_|refine az ?_|(refine ai (aa iI rfl p1 ⟨aB.symm⟩) rfl ?_;intro u1)|(refine bL (dB (z:=p) (({p.1 with seq:=n}:Ln),p.2) rfl rfl iI iI iI rfl hp rfl) ?_;intro g1)|(refine bL (dB (({p.1 with seq:=n,valid:=false}:Ln),p.2) rfl rfl iI iI iI rfl k1 rfl) ?_;intro g2)|(refine bL (dB (({p.1 with seq:=n,valid:=false,cB:=0}:Ln),p.2) rfl rfl iI iI iI rfl k2 rfl) ?_;intro g3)|(refine bL (dB (lp q p) rfl rfl iI iI iI rfl k3 e6) ?_;intro g4))
  exact aj (.inr rfl) rfl ⟨(),rfl,by rw[k4];exact ah⟩
end
section
open Go.RowKit
def yw (now:UInt64) (p:da):da:=if p.1.valid=true∧p.1.cB≤now then lp 0 p else p
def l8 (now:UInt64) (xs:List da):List da:=xs.map (yw now)
def rQ (xs:List da) (d:UInt32) (now:UInt64):Option da:=match fj xs d with
 |some p=>if p.1.valid=true∧now<p.1.cB then some p else none
 |none=>none
def Lb (xs:List da) (d:UInt32) (e:UInt64):List da:=match fj xs d with
 |some p=>if p.1.valid=true∧p.1.cB<e then xs.set (kb d xs) ({p.1 with cB:=e},p.2)else xs
 |none=>xs
def xD (xs:List da) (src d:UInt32):Bool:=match fj xs d with
 |some p=>p.1.valid&&decide (p.1.next=src)
 |none=>false
def CC (xs:List da) (src d s:UInt32):List da:=match fj xs d with
 |some p=>if p.1.valid=true∧p.1.next=src then xs.set (kb d xs) (lp s p)else xs
 |none=>xs
theorem w6 (now:UInt64) (xs:List da):(l8 now xs).length=xs.length:=by simp[l8]
theorem JJ {now:UInt64} {xs:List da} {i:Nat} {p:da} (hp:xs[i]? =some p):(l8 now (xs.take (i+1))++xs.drop (i+1))=((l8 now (xs.take i)++xs.drop i).set i (yw now p)):=by
 obtain⟨h1,h2⟩:=List.getElem?_eq_some_iff.1 hp
 rw[List.drop_eq_getElem_cons h1,h2,List.take_add_one,hp]
 have hl:(l8 now (xs.take i)).length=i:=by rw[w6,List.length_take];omega
 rw[List.set_append_right _ _ (by omega),hl,Nat.sub_self]
 simp[l8]
attribute [local irreducible] WS LS cD eM cn cv Spec bA aK
variable (w0:World)
theorem Bg (g:Nat) (self:UInt32) (v:Value) (xs:List da) (hl:xs.length≤100) (now:UInt64):Spec Tryz.prog w0 150 [ptr g 0,u64 now] (eA g self v xs) (fun _:Unit=> .tuple #[]) (fun _=>eA g self v (l8 now xs)):=by
 refine Spec.enter Tryz.func150 rfl Tryz.ntmps150 rfl fun G=> ?_
 unfold eA
 simp only[aN,ad]
 repeat' (first|(refine ab ?_;intro K hK)|(refine hK _ ?_;clear hK K)|refine ax ?_|refine az ?_)
 refine aV (fun kk τ=>∃(i:Nat),i+kk=xs.length∧τ=⟨[(4,.int .i64 (i:Int)),(1,u64 now),(0,ptr g 0)],[],aK g 197 [u32 self,v]*(rows 53 7 bJ v (l8 now (xs.take i)++xs.drop i)*G)⟩) ?_ ?_
 ·exact⟨xs.length,_,⟨0,by omega,rfl⟩,cG,rfl,ah⟩
 ·rintro kk τ ⟨i,qE,rfl⟩
  have hlen:(l8 now (xs.take i)++xs.drop i).length=xs.length:=by rw[List.length_append,w6,List.length_take,List.length_drop];omega
  rcases Nat.lt_or_ge i xs.length with h|h
  ·have h1:(i:Int)<((l8 now (xs.take i)++xs.drop i).length:Int):=by omega
   have xc:i<(l8 now (xs.take i)++xs.drop i).length:=by omega
   obtain⟨p,hp⟩:∃p,xs[i]? =some p:=⟨_,List.getElem?_eq_getElem h⟩
   have ma:(l8 now (xs.take i)++xs.drop i)[i]? =some p:=by
    have bW:(l8 now (xs.take i)).length=i:=by rw[w6,List.length_take];omega
    rw[List.getElem?_append_right (by omega),bW,Nat.sub_self,List.getElem?_drop]
    simpa using hp
   have jf:=JJ (now:=now) hp
   have p1:=uc w0 g self v (l8 now (xs.take i)++xs.drop i) (by omega) i p ma 0
   unfold eA at p1
   generalize hY:l8 now (xs.take i)++xs.drop i=Y at*
   by_cases hv:p.1.valid=true
   ·have tN:¬p.1.valid=false:=by rw[hv];simp
    by_cases he:p.1.cB≤now
    ·have hf:yw now p=lp 0 p:=by unfold yw;rw[if_pos ⟨hv,he⟩]
     rw[hf]at jf
     repeat' (first|(refine ab ?_;intro K hK)|(refine hK _ ?_;clear hK K)|refine ax ?_|(refine aF ?_ ?_<;>intro hc<;>(try simp only[cS]at hc)<;>(try exact aG))|refine aX ?_|refine az ?_|(refine ai (aa iI rfl p1 iI) rfl ?_;intro u1))
     exact⟨kk - 1,_,by omega,⟨i+1,by omega,rfl⟩,cG,rfl,by rw[jf];exact ah⟩
    ·have hf:yw now p=p:=by unfold yw;rw[if_neg (fun h=>he h.2)]
     have O4:l8 now (xs.take (i+1))++xs.drop (i+1)=Y:=by
      rw[jf,hf]
      apply List.ext_getElem?
      intro j
      rw[List.getElem?_set]
      split
      ·rename_i e;subst e;first|exact ma.symm|(rw[if_pos xc,ma])
      ·rfl
     repeat' (first|(refine ab ?_;intro K hK)|(refine hK _ ?_;clear hK K)|refine ax ?_|(refine aF ?_ ?_<;>intro hc<;>(try simp only[cS]at hc)<;>(try exact aG))|refine aX ?_|refine az ?_)
     exact⟨kk - 1,_,by omega,⟨i+1,by omega,rfl⟩,cG,rfl,by rw[O4];exact ah⟩
   ·have hf:yw now p=p:=by unfold yw;rw[if_neg (fun h=>hv h.1)]
    have mj:p.1.valid=false:=by simpa using hv
    have O4:l8 now (xs.take (i+1))++xs.drop (i+1)=Y:=by
     rw[jf,hf]
     apply List.ext_getElem?
     intro j
     rw[List.getElem?_set]
     split
     ·rename_i e;subst e;first|exact ma.symm|(rw[if_pos xc,ma])
     ·rfl
    repeat' (first|(refine ab ?_;intro K hK)|(refine hK _ ?_;clear hK K)|refine ax ?_|(refine aF ?_ ?_<;>intro hc<;>(try simp only[cS]at hc)<;>(try exact aG))|refine aX ?_|refine az ?_)
    exact⟨kk - 1,_,by omega,⟨i+1,by omega,rfl⟩,cG,rfl,by rw[O4];exact ah⟩
  ·obtain rfl:i=xs.length:=by omega
   have h1:¬(xs.length:Int)<((l8 now (xs.take xs.length)++xs.drop xs.length).length:Int):=by omega
   have xh:l8 now (xs.take xs.length)++xs.drop xs.length=l8 now xs:=by simp
   generalize hY:l8 now (xs.take xs.length)++xs.drop xs.length=Y at*
   repeat' (first|(refine ab ?_;intro K hK)|(refine hK _ ?_;clear hK K)|refine ax ?_|(refine aF ?_ ?_<;>intro hc<;>(try simp only[cS]at hc)<;>(try exact aG))|refine aX ?_|refine az ?_)
   exact aj (.inr rfl) rfl ⟨(),rfl,by rw[←xh];exact ah⟩
theorem Ii (g:Nat) (self:UInt32) (v:Value) (xs:List da) (hl:xs.length≤100) (d:UInt32) (e:UInt64):Spec Tryz.prog w0 189 [ptr g 0,u32 d,u64 e] (eA g self v xs) (fun _:Unit=> .tuple #[]) (fun _=>eA g self v (Lb xs d e)):=by
 refine Spec.enter Tryz.func189 rfl Tryz.ntmps189 rfl fun G=> ?_
 have p1:=iF w0 g self v xs hl d
 unfold eA at*
 simp only[aN,ad]
 unfold Lb
 cases hg:fj xs d with
 |none=>
  rw[hg]at p1
  simp only[Option.isSome_none]at p1
  repeat' (first|(refine ab ?_;intro K hK)|(refine hK _ ?_;clear hK K)|refine ax ?_|(refine aF ?_ ?_<;>intro hc<;>(try simp only[cS]at hc)<;>(try exact aG))|refine az ?_|(refine ai (aa iI rfl p1 iI) rfl ?_;intro u1))
  exact aj (.inr rfl) rfl ⟨(),rfl,ah⟩
 |some p=>
  rw[hg]at p1
  simp only[Option.isSome_some]at p1
  obtain⟨hp,hd⟩:=fl hg
  generalize hi:kb d xs=i at*
  have IB:i<xs.length:=(List.getElem?_eq_some_iff.1 hp).1
  simp only
  by_cases tN:¬p.1.valid=true
  ·have hv:p.1.valid=false:=by simpa using tN
   rw[if_neg (fun h=>tN h.1)]
   repeat' (first|(refine ab ?_;intro K hK)|(refine hK _ ?_;clear hK K)|refine ax ?_|(refine aF ?_ ?_<;>intro hc<;>(try simp only[cS]at hc)<;>(try exact aG))|refine az ?_|(refine ai (aa iI rfl p1 iI) rfl ?_;intro u1))
   exact aj (.inr rfl) rfl ⟨(),rfl,ah⟩
  ·have hv:p.1.valid=true:=Decidable.not_not.1 tN
   have Yj:¬p.1.valid=false:=by rw[hv];simp
   by_cases he:p.1.cB<e
   ·rw[if_pos ⟨hv,he⟩]
    repeat' (first|(refine ab ?_;intro K hK)|(refine hK _ ?_;clear hK K)|refine ax ?_|(refine aF ?_ ?_<;>intro hc<;>(try simp only[cS]at hc)<;>(try exact aG))|refine aX ?_|refine az ?_|(refine ai (aa iI rfl p1 iI) rfl ?_;intro u1)|(refine bL (dB (z:=p) (({p.1 with cB:=e}:Ln),p.2) rfl rfl iI iI iI rfl hp rfl) ?_;intro g1))
    exact aj (.inr rfl) rfl ⟨(),rfl,ah⟩
   ·rw[if_neg (fun h=>he h.2)]
    repeat' (first|(refine ab ?_;intro K hK)|(refine hK _ ?_;clear hK K)|refine ax ?_|(refine aF ?_ ?_<;>intro hc<;>(try simp only[cS]at hc)<;>(try exact aG))|refine aX ?_|refine az ?_|(refine ai (aa iI rfl p1 iI) rfl ?_;intro u1))
    exact aj (.inr rfl) rfl ⟨(),rfl,ah⟩
theorem E8 (g:Nat) (self:UInt32) (v:Value) (xs:List da) (hl:xs.length≤100) (src d q:UInt32):Spec Tryz.prog w0 192 [ptr g 0,u32 src,.agg #[u32 d,u32 q]] (eA g self v xs) (fun _:Unit=> .bool (xD xs src d)) (fun _=>eA g self v (CC xs src d q)):=by
 refine Spec.enter Tryz.func192 rfl Tryz.ntmps192 rfl fun G=> ?_
 have p1:=iF w0 g self v xs hl d
 unfold eA at*
 simp only[aN,ad]
 unfold CC xD
 cases hg:fj xs d with
 |none=>
  rw[hg]at p1
  simp only[Option.isSome_none]at p1
  repeat' (first|(refine ab ?_;intro K hK)|(refine hK _ ?_;clear hK K)|refine ax ?_|(refine aF ?_ ?_<;>intro hc<;>(try simp only[cS]at hc)<;>(try exact aG))|refine az ?_|(refine bT ?_;intro g)|(refine ai (aa iI rfl p1 iI) rfl ?_;intro u1))
  exact aC (.inl rfl) rfl rfl ⟨(),rfl,ah⟩
 |some p=>
  rw[hg]at p1
  simp only[Option.isSome_some]at p1
  obtain⟨hp,hd⟩:=fl hg
  have p2:=uc w0 g self v xs hl (kb d xs) p hp q
  unfold eA at p2
  generalize hi:kb d xs=i at*
  have IB:i<xs.length:=(List.getElem?_eq_some_iff.1 hp).1
  simp only
  by_cases tN:¬p.1.valid=true
  ·have hv:p.1.valid=false:=by simpa using tN
   have mj:(!p.1.valid)=true:=by rw[hv];rfl
   have ID:¬(!p.1.valid)=false:=by rw[hv];simp
   rw[if_neg (fun h=>tN h.1),hv,Bool.false_and]
   repeat' (first|(refine ab ?_;intro K hK)|(refine hK _ ?_;clear hK K)|refine ax ?_|(refine aF ?_ ?_<;>intro hc<;>(try simp only[cS]at hc)<;>(try exact aG))|refine az ?_|(refine bT ?_;intro g)|(refine ai (aa iI rfl p1 iI) rfl ?_;intro u1))
   exact aC (.inl rfl) rfl rfl ⟨(),rfl,ah⟩
  ·have hv:p.1.valid=true:=Decidable.not_not.1 tN
   have mj:(!p.1.valid)=false:=by rw[hv];rfl
   have ID:¬(!p.1.valid)=true:=by rw[hv];simp
   have UL:¬p.1.valid=false:=by rw[hv];simp
   by_cases he:p.1.next=src
   ·rw[if_pos ⟨hv,he⟩,decide_eq_true he,Bool.and_true,hv]
    repeat' (first|(refine ab ?_;intro K hK)|(refine hK _ ?_;clear hK K)|refine ax ?_|(refine aF ?_ ?_<;>intro hc<;>(try simp only[cS]at hc)<;>(try exact aG))|refine aX ?_|refine az ?_|(refine bT ?_;intro g)|(refine ai (aa iI rfl p1 iI) rfl ?_;intro u1)|(refine ai (aa iI rfl p2 iI) rfl ?_;intro u2))
    exact aC (.inl rfl) rfl rfl ⟨(),rfl,ah⟩
   ·rw[if_neg (fun h=>he h.2),decide_eq_false he,Bool.and_false]
    repeat' (first|(refine ab ?_;intro K hK)|(refine hK _ ?_;clear hK K)|refine ax ?_|(refine aF ?_ ?_<;>intro hc<;>(try simp only[cS]at hc)<;>(try exact aG))|refine aX ?_|refine az ?_|(refine bT ?_;intro g)|(refine ai (aa iI rfl p1 iI) rfl ?_;intro u1))
    exact aC (.inl rfl) rfl rfl ⟨(),rfl,ah⟩
end
section
open Go.RowKit
def zeroV:Value:= .agg #[u32 0,u32 0,.int .i64 0,u32 0,.bool false,u64 0,.slice none 0 0]
def Oi:Option da→Value
 |some p=> .agg #[u32 p.1.dest,u32 p.1.seq,.int .i64 p.1.aH,u32 p.1.next,.bool p.1.valid,u64 p.1.cB,il p.1 p.2]
 |none=>zeroV
def yu (nb:UInt32) (p:da):da:=if p.1.valid=true∧p.1.next=nb then lp 0 p else p
def mR (nb:UInt32) (xs:List da):List da:=xs.map (yu nb)
def mH (nb:UInt32) (xs:List da):List (UInt32×UInt32):=xs.filterMap fun p=>if(p.1.valid=true∧p.1.next=nb)∧0<p.1.before.length then some (p.1.dest,(p.1.ended 0).seq)else none
theorem wP (nb:UInt32) (xs:List da):(mR nb xs).length=xs.length:=by simp[mR]
theorem GX {nb:UInt32} {xs:List da} {i:Nat} {p:da} (hp:xs[i]? =some p):(mR nb (xs.take (i+1))++xs.drop (i+1))=((mR nb (xs.take i)++xs.drop i).set i (yu nb p)):=by
 obtain⟨h1,h2⟩:=List.getElem?_eq_some_iff.1 hp
 rw[List.drop_eq_getElem_cons h1,h2,List.take_add_one,hp]
 have hl:(mR nb (xs.take i)).length=i:=by rw[wP,List.length_take];omega
 rw[List.set_append_right _ _ (by omega),hl,Nat.sub_self]
 simp[mR]
theorem MB (nb:UInt32) (xs:List da):(mH nb xs).length≤xs.length:=List.length_filterMap_le _ _
theorem Dj {xs:List da} {i:Nat} {p:da} (hp:xs[i]? =some p):xs.set i p=xs:=by
 apply List.ext_getElem?
 intro j
 rw[List.getElem?_set]
 have hi:=(List.getElem?_eq_some_iff.1 hp).1
 split
 ·rename_i e;subst e;first|exact hp.symm|(rw[if_pos hi,hp])
 ·rfl
attribute [local irreducible] WS LS cD eM cn cv Spec bA aK
variable (w0:World)
theorem E7 (g:Nat) (self:UInt32) (v:Value) (xs:List da) (hl:xs.length≤100) (d:UInt32) (now:UInt64):Spec Tryz.prog w0 152 [ptr g 0,u32 d,u64 now] (eA g self v xs) (fun _:Unit=> .tuple #[Oi (rQ xs d now),.bool (rQ xs d now).isSome]) (fun _=>eA g self v xs):=by
 refine Spec.enter Tryz.func152 rfl Tryz.ntmps152 rfl fun G=> ?_
 have p1:=iF w0 g self v xs hl d
 unfold eA at*
 simp only[aN,ad]
 cases hg:fj xs d with
 |none=>
  rw[hg]at p1
  simp only[Option.isSome_none]at p1
  have hf:rQ xs d now=none:=by unfold rQ;rw[hg]
  rw[hf]
  repeat' (first|(refine ab ?_;intro K hK)|(refine hK _ ?_;clear hK K)|refine ax ?_|(refine aF ?_ ?_<;>intro hc<;>(try simp only[cS]at hc)<;>(try exact aG))|refine az ?_|(refine bT ?_;intro g)|(refine bQ ?_;intro g)|(refine ai (aa iI rfl p1 iI) rfl ?_;intro u1))
  exact dF (.inl rfl) rfl (aS rfl iI iI rfl) (bh rfl) ⟨(),rfl,ah⟩
 |some p=>
  rw[hg]at p1
  simp only[Option.isSome_some]at p1
  obtain⟨hp,hd⟩:=fl hg
  have hf:rQ xs d now=if p.1.valid=true∧now<p.1.cB then some p else none:=by unfold rQ;rw[hg]
  rw[hf]
  generalize hi:kb d xs=i at*
  have IB:i<xs.length:=(List.getElem?_eq_some_iff.1 hp).1
  by_cases tN:¬p.1.valid=true
  ·have hv:p.1.valid=false:=by simpa using tN
   have mj:(!p.1.valid)=true:=by rw[hv];rfl
   have ID:¬(!p.1.valid)=false:=by rw[hv];simp
   rw[if_neg (fun h=>tN h.1)]
   repeat' (first|(refine ab ?_;intro K hK)|(refine hK _ ?_;clear hK K)|refine ax ?_|(refine aF ?_ ?_<;>intro hc<;>(try simp only[cS]at hc)<;>(try exact aG))|refine az ?_|(refine bT ?_;intro g)|(refine bQ ?_;intro g)|(refine ai (aa iI rfl p1 iI) rfl ?_;intro u1))
   exact dF (.inl rfl) rfl (aS rfl iI iI rfl) (bh rfl) ⟨(),rfl,ah⟩
  ·have hv:p.1.valid=true:=Decidable.not_not.1 tN
   have mj:(!p.1.valid)=false:=by rw[hv];rfl
   have ID:¬(!p.1.valid)=true:=by rw[hv];simp
   have UL:¬p.1.valid=false:=by rw[hv];simp
   by_cases he:p.1.cB≤now
   ·rw[if_neg (fun h=>(UInt64.not_lt.2 he) h.2)]
    repeat' (first|(refine ab ?_;intro K hK)|(refine hK _ ?_;clear hK K)|refine ax ?_|(refine aF ?_ ?_<;>intro hc<;>(try simp only[cS]at hc)<;>(try exact aG))|refine aX ?_|refine az ?_|(refine bT ?_;intro g)|(refine bQ ?_;intro g)|(refine ai (aa iI rfl p1 iI) rfl ?_;intro u1))
    exact dF (.inl rfl) rfl (aS rfl iI iI rfl) (bh rfl) ⟨(),rfl,ah⟩
   ·rw[if_pos ⟨hv,UInt64.not_le.1 he⟩]
    repeat' (first|(refine ab ?_;intro K hK)|(refine hK _ ?_;clear hK K)|refine ax ?_|(refine aF ?_ ?_<;>intro hc<;>(try simp only[cS]at hc)<;>(try exact aG))|refine aX ?_|refine az ?_|(refine bT ?_;intro g)|((refine' bL ?zh ?_);(case zh=>exact bo rfl rfl iI iI (by first|rfl|(simp only[List.all_cons,List.all_nil, *];rfl)) rfl);intro g)|(refine ai (aa iI rfl p1 iI) rfl ?_;intro u1))
    exact dF (.inl rfl) rfl (aS rfl iI iI rfl) (bh rfl) ⟨(),rfl,ah⟩
theorem Bb (g:Nat) (self:UInt32) (v:Value) (xs:List da) (hl:xs.length≤100) (nb:UInt32):Spec Tryz.prog w0 137 [ptr g 0,u32 nb] (eA g self v xs) (fun vo:Value=>vo) (fun vo=>eA g self v (mR nb xs)*rows 180 2 bB vo (mH nb xs)):=by
 refine Spec.enter Tryz.func137 rfl Tryz.ntmps137 rfl fun G=> ?_
 unfold eA
 simp only[aN,ad]
 repeat' (first|(refine ab ?_;intro K hK)|(refine hK _ ?_;clear hK K)|refine ax ?_|refine az ?_)
 refine aV (fun kk τ=>∃(i:Nat) (vo:Value),i+kk=xs.length∧τ=⟨[(6,.int .i64 (i:Int)),(5,vo),(1,u32 nb),(0,ptr g 0)],[],aK g 197 [u32 self,v]*(rows 53 7 bJ v (mR nb (xs.take i)++xs.drop i)*(rows 180 2 bB vo (mH nb (xs.take i))*G))⟩) ?_ ?_
 ·exact⟨xs.length,_,⟨0,_,by omega,rfl⟩,cG,rfl,ah⟩
 ·rintro kk τ ⟨i,vo,qE,rfl⟩
  have hlen:(mR nb (xs.take i)++xs.drop i).length=xs.length:=by rw[List.length_append,wP,List.length_take,List.length_drop];omega
  have Ri:(mH nb (xs.take i)).length≤100:=by have:=MB nb (xs.take i);rw[List.length_take]at this;omega
  rcases Nat.lt_or_ge i xs.length with h|h
  ·have h1:(i:Int)<((mR nb (xs.take i)++xs.drop i).length:Int):=by omega
   have xc:i<(mR nb (xs.take i)++xs.drop i).length:=by omega
   obtain⟨p,hp⟩:∃p,xs[i]? =some p:=⟨_,List.getElem?_eq_getElem h⟩
   have ma:(mR nb (xs.take i)++xs.drop i)[i]? =some p:=by
    have bW:(mR nb (xs.take i)).length=i:=by rw[wP,List.length_take];omega
    rw[List.getElem?_append_right (by omega),bW,Nat.sub_self,List.getElem?_drop]
    simpa using hp
   have jf:=GX (nb:=nb) hp
   have mZ:mH nb (xs.take (i+1))=mH nb (xs.take i)++mH nb [p]:=by rw[List.take_add_one,hp];simp[mH]
   have p1:=uc w0 g self v (mR nb (xs.take i)++xs.drop i) (by omega) i p ma 0
   unfold eA at p1
   have hle:(lp 0 p).1=p.1.ended 0:=rfl
   generalize hY:mR nb (xs.take i)++xs.drop i=Y at*
   generalize hO:mH nb (xs.take i)=O at*
   have Y2:i<(Y.set i (lp 0 p)).length:=by rw[List.length_set];exact xc
   have SX:(Y.set i (lp 0 p))[i]? =some (lp 0 p):=yb xc
   have Lw:=cF p.1.before
   by_cases tN:¬p.1.valid=true
   ·have hv:p.1.valid=false:=by simpa using tN
    have hf:yu nb p=p:=by unfold yu;rw[if_neg (fun h=>tN h.1)]
    have OR:mH nb [p]=[]:=by simp[mH,hv]
    rw[hf,Dj ma]at jf
    rw[OR,List.append_nil]at mZ
    repeat' (first|(refine ab ?_;intro K hK)|(refine hK _ ?_;clear hK K)|refine ax ?_|(refine aF ?_ ?_<;>intro hc<;>(try simp only[cS]at hc)<;>(try exact aG))|refine aX ?_|refine az ?_)
    exact⟨kk - 1,_,by omega,⟨i+1,vo,by omega,rfl⟩,cG,rfl,by rw[jf,mZ];exact ah⟩
   ·have hv:p.1.valid=true:=Decidable.not_not.1 tN
    have UL:¬p.1.valid=false:=by rw[hv];simp
    by_cases he:p.1.next=nb
    ·have hf:yu nb p=lp 0 p:=by unfold yu;rw[if_pos ⟨hv,he⟩]
     rw[hf]at jf
     by_cases hb:0<p.1.before.length
     ·have OR:mH nb [p]=[(p.1.dest,(p.1.ended 0).seq)]:=by simp[mH,hv,he,hb]
      rw[OR]at mZ
      have FT:(0:Int)<((aQ p.1.before).length:Int):=by omega
      repeat' (first|refine ae (id:=9) (.range 21) 19 [4,6,7,8,12,14,15,16] ?_|(refine ab ?_;intro K hK)|(refine hK _ ?_;clear hK K)|refine ax ?_|(refine aF ?_ ?_<;>intro hc<;>(try simp only[cS]at hc)<;>(try exact aG))|refine aX ?_|refine az ?_|(refine ai (aa iI rfl p1 iI) rfl ?_;intro u1)|(refine aD (au bB [(p.1.dest,(p.1.ended 0).seq)] iI iI iI rfl rfl rfl rfl rfl iI rfl rfl rfl) rfl rfl rfl ?_;intro vs)|(refine aD (aR rfl rfl iI iI rfl iI iI lA (by first|omega|(simp[al]<;>omega)) rfl) rfl rfl rfl ?_;intro va))
      exact⟨kk - 1,_,by omega,⟨i+1,va,by omega,rfl⟩,cG,rfl,by rw[jf,mZ];exact ah⟩
     ·have OR:mH nb [p]=[]:=by simp[mH,hb]
      rw[OR,List.append_nil]at mZ
      have FT:¬(0:Int)<((aQ p.1.before).length:Int):=by omega
      repeat' (first|(refine ab ?_;intro K hK)|(refine hK _ ?_;clear hK K)|refine ax ?_|(refine aF ?_ ?_<;>intro hc<;>(try simp only[cS]at hc)<;>(try exact aG))|refine aX ?_|refine az ?_|(refine ai (aa iI rfl p1 iI) rfl ?_;intro u1))
      exact⟨kk - 1,_,by omega,⟨i+1,vo,by omega,rfl⟩,cG,rfl,by rw[jf,mZ];exact ah⟩
    ·have hf:yu nb p=p:=by unfold yu;rw[if_neg (fun h=>he h.2)]
     have OR:mH nb [p]=[]:=by simp[mH,he]
     rw[hf,Dj ma]at jf
     rw[OR,List.append_nil]at mZ
     repeat' (first|(refine ab ?_;intro K hK)|(refine hK _ ?_;clear hK K)|refine ax ?_|(refine aF ?_ ?_<;>intro hc<;>(try simp only[cS]at hc)<;>(try exact aG))|refine aX ?_|refine az ?_)
     exact⟨kk - 1,_,by omega,⟨i+1,vo,by omega,rfl⟩,cG,rfl,by rw[jf,mZ];exact ah⟩
  ·obtain rfl:i=xs.length:=by omega
   have h1:¬(xs.length:Int)<((mR nb (xs.take xs.length)++xs.drop xs.length).length:Int):=by omega
   have xh:mR nb (xs.take xs.length)++xs.drop xs.length=mR nb xs:=by simp
   have Q3:mH nb (xs.take xs.length)=mH nb xs:=by simp
   rw[Q3]
   generalize hY:mR nb (xs.take xs.length)++xs.drop xs.length=Y at*
   repeat' (first|(refine ab ?_;intro K hK)|(refine hK _ ?_;clear hK K)|refine ax ?_|(refine aF ?_ ?_<;>intro hc<;>(try simp only[cS]at hc)<;>(try exact aG))|refine aX ?_|refine az ?_)
   exact aC (.inl rfl) rfl rfl ⟨vo,rfl,by rw[←xh];exact ah⟩
end
section
open Go.RowKit
def uT (xs:List da) (i:Nat) (x:da):List da:=(xs.take i++[x])++xs.drop i
def MM (x:da):Value:= .agg #[u32 x.1.dest,u32 x.1.seq,.int .i64 x.1.aH,u32 x.1.next,.bool x.1.valid,u64 x.1.cB,il x.1 x.2]
def qO (d q:UInt32) (h:Int) (nb:UInt32) (e:UInt64):da:=(⟨d,q,h,nb,true,e,[]⟩,(none,0))
def Fm (self:UInt32) (xs:List da) (d q:UInt32) (h:Int) (nb:UInt32) (e:UInt64):Int×List da:=
 if d=self∨d=0 then(2,xs)else
 match fj xs d with
 |some p=>if(q.toNat:Int)<p.1.rk∨(q.toNat:Int)=p.1.rk∧p.1.aH≤h then(3,xs)else(0,xs.set (kb d xs) (qO d q h nb e))
 |none=>if 8≤xs.length then(4,xs)else(0,uT xs (kb d xs) (qO d q h nb e))
theorem qP (d q:UInt32) (h:Int) (nb:UInt32) (e:UInt64):bJ (qO d q h nb e)=[u32 d,u32 q,.int .i64 h,u32 nb,.bool true,u64 e,.slice none 0 0]:=by
 have e0:(aQ ([]:List UInt32)).length=0:=by rw[cF];rfl
 show [_,_,_,_,_,_,Value.slice none (aQ ([]:List UInt32)).length 0]=_
 rw[e0]
 rfl
theorem Kw (d q:UInt32) (h:Int) (nb:UInt32) (e:UInt64):MM (qO d q h nb e)= .agg #[u32 d,u32 q,.int .i64 h,u32 nb,.bool true,u64 e,.slice none 0 0]:=by
 have h2:MM (qO d q h nb e)= .agg (bJ (qO d q h nb e)).toArray:=rfl
 rw[h2,qP]
attribute [local irreducible] WS LS cD eM cn cv Spec bA aK di cq
variable (w0:World)
theorem HQ (g:Nat) (self:UInt32) (v:Value) (xs:List da) (hl:xs.length≤100) (i:Nat) (hi:i≤xs.length) (x:da):Spec Tryz.prog w0 221 [ptr g 0,.int .i64 (i:Int),MM x] (eA g self v xs) (fun _:Value=> .tuple #[]) (fun v'=>eA g self v' (uT xs i x)):=by
 refine Spec.enter Tryz.func221 rfl Tryz.ntmps221 rfl fun G=> ?_
 unfold eA MM
 simp only[aN,ad]
 refine cV (aq.nil _ 53 7 bJ none) ?_
 have h1:(xs.take i).length=i:=by simp;omega
 have h2:(xs.drop i).length=xs.length - i:=by simp
 repeat' (first|(refine ab ?_;intro K hK)|(refine hK _ ?_;clear hK K)|refine ax ?_|refine az ?_|((refine' LQ ?zh rfl ?_);case zh=>intro F';first|exact dv rfl rfl iI iI iI iI (by first|assumption|omega|(simp[al]<;>omega))|exact cW rfl rfl iI iI iI iI (by first|assumption|omega|(simp[al]<;>omega)))|(refine bT ?_;intro g)|(refine bQ ?_;intro g)|(refine ai (dH (rows 53 7 bJ v xs) rfl rfl iI iI iI rfl iI iI nW (by first|omega|(simp[al]<;>omega)) rfl) rfl ?_;intro v2)|(refine ai (au bJ [x] iI iI iI rfl rfl rfl rfl rfl iI rfl rfl rfl) rfl ?_;intro vs)|(refine ai (aR rfl rfl iI iI rfl iI iI nW (by first|omega|(simp[al]<;>omega)) rfl) rfl ?_;intro va))
 --tg
 exact aj (.inr rfl) rfl ⟨v2,rfl,by unfold uT;exact ah⟩
theorem Ih (g:Nat) (self:UInt32) (v:Value) (xs:List da) (hl:xs.length≤100) (d q:UInt32) (h:Int) (nb:UInt32) (e:UInt64):Spec Tryz.prog w0 188 [ptr g 0,u32 d,u32 q,.int .i64 h,u32 nb,u64 e] (eA g self v xs) (fun _:Value=> .int .i64 (Fm self xs d q h nb e).1) (fun v'=>eA g self v' (Fm self xs d q h nb e).2):=by
 refine Spec.enter Tryz.func188 rfl Tryz.ntmps188 rfl fun G=> ?_
 have p1:=iF w0 g self v xs hl d
 have p2:=xZ w0 (qO d q h nb e)
 have p3:=HQ w0 g self v xs hl (kb d xs) (DP d xs) (qO d q h nb e)
 unfold xY at p2
 rw[qP]at p2
 rw[Kw]at p3
 have OW:(qO d q h nb e).1.rk=(q.toNat:Int):=rfl
 rw[OW]at p2
 unfold eA at*
 simp only[aN,ad]
 unfold Fm
 by_cases hs:d=self
 ·rw[if_pos (.inl hs)]
  repeat' (first|(refine ab ?_;intro K hK)|(refine hK _ ?_;clear hK K)|refine ax ?_|(refine aF ?_ ?_<;>intro hc<;>(try simp only[cS]at hc)<;>(try exact aG))|refine aX ?_|refine az ?_)
  exact aC (.inl rfl) rfl rfl ⟨v,rfl,ah⟩
 by_cases h0:d=0
 ·rw[if_pos (.inr h0)]
  repeat' (first|(refine ab ?_;intro K hK)|(refine hK _ ?_;clear hK K)|refine ax ?_|(refine aF ?_ ?_<;>intro hc<;>(try simp only[cS]at hc)<;>(try exact aG))|refine aX ?_|refine az ?_)
  exact aC (.inl rfl) rfl rfl ⟨v,rfl,ah⟩
 ·rw[if_neg (fun hh=>hh.elim hs h0)]
  cases hg:fj xs d with
  |none=>
   rw[hg]at p1
   simp only[Option.isSome_none]at p1
   by_cases h8:8≤xs.length
   ·have TM:(8:Int)≤(xs.length:Int):=by omega
    simp only
    rw[if_pos h8]
    repeat' (first|(refine ab ?_;intro K hK)|(refine hK _ ?_;clear hK K)|refine ax ?_|(refine aF ?_ ?_<;>intro hc<;>(try simp only[cS]at hc)<;>(try exact aG))|refine aX ?_|refine az ?_|(refine bT ?_;intro g)|(refine bQ ?_;intro g)|(refine ai (aa iI rfl p1 iI) rfl ?_;intro u1))
    exact aC (.inl rfl) rfl rfl ⟨v,rfl,ah⟩
   ·have TM:¬(8:Int)≤(xs.length:Int):=by omega
    simp only
    rw[if_neg h8]
    repeat' (first|(refine ab ?_;intro K hK)|(refine hK _ ?_;clear hK K)|refine ax ?_|(refine aF ?_ ?_<;>intro hc<;>(try simp only[cS]at hc)<;>(try exact aG))|refine aX ?_|refine az ?_|(refine bT ?_;intro g)|(refine bQ ?_;intro g)|(refine ai (aa iI rfl p1 iI) rfl ?_;intro u1)|(refine ai (aa iI rfl p3 iI) rfl ?_;intro v3))
    exact aC (.inl rfl) rfl rfl ⟨v3,rfl,ah⟩
  |some p=>
   rw[hg]at p1
   simp only[Option.isSome_some]at p1
   obtain⟨hp,hd⟩:=fl hg
   have p4:=xZ w0 p
   unfold xY bJ bM at p4
   generalize hi:kb d xs=i at*
   have IB:i<xs.length:=(List.getElem?_eq_some_iff.1 hp).1
   simp only
   generalize hr:p.1.rk=rk at*
   have zm:=qP d q h nb e
   by_cases c1:(q.toNat:Int)<rk
   ·rw[if_pos (.inl c1)]
    repeat' (first|(refine ab ?_;intro K hK)|(refine hK _ ?_;clear hK K)|refine ax ?_|(refine aF ?_ ?_<;>intro hc<;>(try simp only[cS]at hc)<;>(try exact aG))|refine aX ?_|refine az ?_|(refine bT ?_;intro g)|(refine bQ ?_;intro g)|(refine ai (aa iI rfl p1 iI) rfl ?_;intro u1)|(refine ai (aa iI rfl p2 ⟨aB.symm⟩) rfl ?_;intro u2)|(refine ai (aa iI rfl p4 ⟨aB.symm⟩) rfl ?_;intro u4))
    exact aC (.inl rfl) rfl rfl ⟨v,rfl,ah⟩
   by_cases c2:(q.toNat:Int)=rk
   ·by_cases c3:p.1.aH≤h
    ·rw[if_pos (.inr ⟨c2,c3⟩)]
     repeat' (first|(refine ab ?_;intro K hK)|(refine hK _ ?_;clear hK K)|refine ax ?_|(refine aF ?_ ?_<;>intro hc<;>(try simp only[cS]at hc)<;>(try exact aG))|refine aX ?_|refine az ?_|(refine bT ?_;intro g)|(refine bQ ?_;intro g)|(refine ai (aa iI rfl p1 iI) rfl ?_;intro u1)|(refine ai (aa iI rfl p2 ⟨aB.symm⟩) rfl ?_;intro u2)|(refine ai (aa iI rfl p4 ⟨aB.symm⟩) rfl ?_;intro u4))
     exact aC (.inl rfl) rfl rfl ⟨v,rfl,ah⟩
    ·rw[if_neg (fun hh=>hh.elim c1 fun hh=>c3 hh.2)]
     repeat' (first|refine ae (id:=10) (.range 8) 7 [3,5,6] ?_|(refine ab ?_;intro K hK)|(refine hK _ ?_;clear hK K)|refine ax ?_|(refine aF ?_ ?_<;>intro hc<;>(try simp only[cS]at hc)<;>(try exact aG))|refine aX ?_|refine az ?_|(refine bT ?_;intro g)|(refine bQ ?_;intro g)|(refine ai (aa iI rfl p1 iI) rfl ?_;intro u1)|(refine ai (aa iI rfl p2 ⟨aB.symm⟩) rfl ?_;intro u2)|(refine ai (aa iI rfl p4 ⟨aB.symm⟩) rfl ?_;intro u4)|(refine' dP ?zh rfl rfl ?_;(case zh=>exact gV (qO d q h nb e) rfl rfl zm.symm iI iI iI rfl rfl IB);intro g5)|fail)
     exact aC (.inl rfl) rfl rfl ⟨v,rfl,ah⟩
   ·rw[if_neg (fun hh=>hh.elim c1 fun hh=>c2 hh.1)]
    repeat' (first|refine ae (id:=10) (.range 8) 7 [3,5,6] ?_|(refine ab ?_;intro K hK)|(refine hK _ ?_;clear hK K)|refine ax ?_|(refine aF ?_ ?_<;>intro hc<;>(try simp only[cS]at hc)<;>(try exact aG))|refine aX ?_|refine az ?_|(refine bT ?_;intro g)|(refine bQ ?_;intro g)|(refine ai (aa iI rfl p1 iI) rfl ?_;intro u1)|(refine ai (aa iI rfl p2 ⟨aB.symm⟩) rfl ?_;intro u2)|(refine ai (aa iI rfl p4 ⟨aB.symm⟩) rfl ?_;intro u4)|(refine' dP ?zh rfl rfl ?_;(case zh=>exact gV (qO d q h nb e) rfl rfl zm.symm iI iI iI rfl rfl IB);intro g5)|fail)
    --tg
    exact aC (.inl rfl) rfl rfl ⟨v,rfl,ah⟩
end
section
open Go.RowKit
theorem KX {bs:List UInt32} {n:UInt32} (h:n∈bs):sI bs n=bs:=by
 have key:∀l:List UInt32,n∈l→(bY (l.map (·,())) n ()).map (·.1)=l:=by
  intro l
  induction l with
  |nil=>intro h;cases h
  |cons x l ih=>
   intro h
   rw[List.map_cons,ni]
   by_cases e:x=n
   ·rw[if_pos e]
    subst e
    simp[Function.comp_def]
   ·rw[if_neg e,List.map_cons]
    rcases List.mem_cons.1 h with h|h
    ·exact absurd h.symm e
    ·rw[ih h]
 exact key bs h
theorem Di {bs:List UInt32} {n:UInt32} (h:¬n∈bs):sI bs n=bs++[n]:=by
 have key:∀l:List UInt32,¬n∈l→(bY (l.map (·,())) n ()).map (·.1)=l++[n]:=by
  intro l
  induction l with
  |nil=>intro _;rfl
  |cons x l ih=>
   intro h
   rw[List.map_cons,ni]
   have e:¬x=n:=fun e=>h (by rw[e];simp)
   rw[if_neg e,List.map_cons,ih (fun h2=>h (by simp[h2]))]
   rfl
 exact key bs h
def rC (n:UInt32):List UInt32→Nat
 |[]=>0
 |x::r=>if x<n then rC n r+1 else 0
theorem Jh (n:UInt32):∀l,rC n l≤l.length
 |[]=>Nat.le_refl _
 |x::r=>by
  unfold rC
  have:=Jh n r
  split<;>simp<;>omega
theorem Aj (n:UInt32):∀(l:List UInt32) (i:Nat) x,i<rC n l→l[i]? =some x→x<n
 |[],i,x,h,_=>by simp[rC]at h
 |y::r,i,x,h,hx=>by
  unfold rC at h
  split at h
  ·rename_i hy
   cases i with
   |zero=>simp at hx;subst hx;exact hy
   |succ i=>exact Aj n r i x (by omega) (by simpa using hx)
  ·omega
theorem rD (n:UInt32):∀(l:List UInt32) x,l[rC n l]? =some x→¬x<n
 |[],x,h=>by simp[rC]at h
 |y::r,x,h=>by
  unfold rC at h
  split at h
  ·exact rD n r x (by simpa using h)
  ·rename_i hy
   simp at h;subst h;exact hy
theorem N9 {n:UInt32} {l:List UInt32} {i:Nat} (h1:i≤l.length) (h2:∀j x,j<i→l[j]? =some x→x<n) (h3:∀x,l[i]? =some x→¬x<n):rC n l=i:=by
 have a1:=Jh n l
 rcases Nat.lt_trichotomy (rC n l) i with h|h|h
 ·obtain⟨p,hp⟩:∃p,l[rC n l]? =some p:=⟨_,List.getElem?_eq_getElem (by omega)⟩
  exact absurd (h2 _ p h hp) (rD n l p hp)
 ·exact h
 ·obtain⟨p,hp⟩:∃p,l[i]? =some p:=⟨_,List.getElem?_eq_getElem (by omega)⟩
  exact absurd (Aj n l i p h hp) (h3 p hp)
theorem L4 {n:UInt32} {l:List UInt32} (hr:fH l):n∈l↔l[rC n l]? =some n:=by
 constructor
 ·intro hm
  obtain⟨j,hj⟩:=List.getElem?_of_mem hm
  have bW:=(List.getElem?_eq_some_iff.1 hj).1
  rcases Nat.lt_trichotomy j (rC n l)with h|h|h
  ·exact absurd (Aj n l j n h hj) (by rw[UInt32.lt_iff_toNat_lt];omega)
  ·rw[←h];exact hj
  ·obtain⟨p,hp⟩:∃p,l[rC n l]? =some p:=⟨_,List.getElem?_eq_getElem (by omega)⟩
   have h1:=rD n l p hp
   obtain⟨a1,a2⟩:=List.getElem?_eq_some_iff.1 hp
   obtain⟨b1,b2⟩:=List.getElem?_eq_some_iff.1 hj
   have h2:=List.pairwise_iff_getElem.1 hr (rC n l) j a1 b1 h
   rw[a2,b2]at h2
   have:p=n:=UInt32.toNat_inj.1 (by rw[UInt32.lt_iff_toNat_lt]at h1;omega)
   rw[hp,this]
 ·exact fun h=>List.mem_of_getElem? h
theorem zS {bs:List UInt32} {n:UInt32}:aQ (bs++[n])=((aQ bs).take (rC n (aQ bs))++[n])++(aQ bs).drop (rC n (aQ bs)):=by
 have hr:=lX bs
 have hp:((aQ bs).take (rC n (aQ bs))++n::(aQ bs).drop (rC n (aQ bs))).Perm (bs++[n]):=by
  have h1:((aQ bs).take (rC n (aQ bs))++n::(aQ bs).drop (rC n (aQ bs))).Perm (n::((aQ bs).take (rC n (aQ bs))++(aQ bs).drop (rC n (aQ bs)))):=List.perm_middle
  rw[List.take_append_drop]at h1
  refine h1.trans (((List.mergeSort_perm bs _).cons n).trans ?_)
  exact(List.perm_append_singleton n bs).symm
 have Ro:fH ((aQ bs).take (rC n (aQ bs))++n::(aQ bs).drop (rC n (aQ bs))):=by
  refine xX (by rw[List.take_append_drop];exact hr) (fun b hb=> ?_) fun a ha=> ?_
  ·obtain⟨j,hj⟩:=List.getElem?_of_mem hb
   rw[List.getElem?_drop]at hj
   have bW:=(List.getElem?_eq_some_iff.1 hj).1
   obtain⟨p,UC⟩:∃p,(aQ bs)[rC n (aQ bs)]? =some p:=⟨_,List.getElem?_eq_getElem (by omega)⟩
   have h1:=rD n (aQ bs) p UC
   rw[UInt32.lt_iff_toNat_lt]at h1
   obtain⟨a1,a2⟩:=List.getElem?_eq_some_iff.1 UC
   obtain⟨b1,b2⟩:=List.getElem?_eq_some_iff.1 hj
   rcases Nat.eq_zero_or_pos j with h0|h0
   ·subst h0
    have:p=b:=by rw[Nat.add_zero,UC]at hj;exact Option.some.inj hj
    rw[←this];omega
   ·have h2:=List.pairwise_iff_getElem.1 hr _ _ a1 b1 (by omega)
    rw[a2,b2]at h2
    omega
  ·obtain⟨j,hj⟩:=List.getElem?_of_mem ha
   have bW:=(List.getElem?_eq_some_iff.1 hj).1
   rw[List.length_take]at bW
   rw[List.getElem?_take,if_pos (by omega)]at hj
   have:=Aj n (aQ bs) j a (by omega) hj
   rw[UInt32.lt_iff_toNat_lt]at this
   omega
 have h:=sK hp ⟨_,List.Perm.refl _,Ro⟩
 rw[←h]
 simp
end
section
open Go.RowKit
theorem cn.form {P:Program} {n:fT} {w0:World} {o:Oper} {E:Env} {H F:af} {α:Type} {e:TypeId} {size:Nat} {f:α→List Value} {l:List α} (N:Nat) (hN:l.length=N) (h:cn P n w0 o E H (fun v:Value=>v) (fun v=>rows e size f v l*F)):cn P n w0 o E H (fun s:Option Addr×Nat=> .slice s.1 N s.2) (fun s=>rows e size f (.slice s.1 N s.2) l*F):=cn.whole fun G a w K Q hs je hK=>by
 obtain⟨pre,zK,F0,iZ,hH,hp⟩:=h
 refine iZ (F0*G) a w K Q hs (je.cast (by rw[hH,ad])) fun x w' hw=> ?_
 have h2:Sat w0 w' (rows e size f x l*(F*G)):=hw.cast (by
  rw[←ad,←ad]
  exact congrArg (·*G) (hp x).symm)
 obtain⟨A,c,rfl⟩:=gz h2
 subst hN
 exact hK (A,c) w' (h2.cast (ad _ _ _).symm)
theorem kF:∀(l k:List da),cQ (l++k)=cQ l*cQ k
 |[],k=>by rw[List.nil_append,cQ,aB]
 |x::l,k=>by rw[List.cons_append,cQ,cQ,kF l k,ad]
theorem rF {xs:List da} {i:Nat} {p:da} (h:xs[i]? =some p):cQ xs=cQ (xs.take i)*(rows 26 1 cA (il p.1 p.2) (aQ p.1.before)*cQ (xs.drop (i+1))):=by
 have h1:xs=xs.take i++(p::xs.drop (i+1)):=by
  obtain⟨h2,h3⟩:=List.getElem?_eq_some_iff.1 h
  conv=>lhs;rw[←List.take_append_drop i xs,List.drop_eq_getElem_cons h2,h3]
 conv=>lhs;rw[h1,kF,cQ]
theorem kG {xs:List da} {i:Nat} (h:i<xs.length) (z:da):cQ (xs.set i z)=cQ (xs.take i)*(rows 26 1 cA (il z.1 z.2) (aQ z.1.before)*cQ (xs.drop (i+1))):=by
 have h1:(xs.set i z)[i]? =some z:=by simp[h]
 rw[rF h1,List.take_set_of_le (Nat.le_refl i),List.drop_set_of_lt (Nat.lt_succ_self i)]
theorem BK {P:Program} {n:fT} {w0:World} {E:Env} {D:List Deferred} {H F:af} {Q:Exit→St→Prop} {l l':List Oper} {id:Nat} (t:Nat) (idx:List Nat) (cp:Nat) (bs:List Nat) {g off:Nat} {bt:TypeId} {cs:List Value} (hs:iT P l idx (yA bs) cp=true) (hl:jK l idx=some l') (hx:E.get t=some (ptr g off)) (hR:cZ H g bt cs F) (h:DL P n w0 l.toArray Q D (aK g bt cs) F (yA bs) cp 0 false l' E emp):WS P n w0 (.region id l.toArray true) Q ⟨E,D,H⟩:=
 iK idx l' (aK g bt cs) F emp (yA bs) cp hs (by rw[hR.eq,bl]) (gO hl) h
theorem MZ {P:Program} {n:fT} {w0:World} {E:Env} {D:List Deferred} {F:af} {Q:Exit→St→Prop} {ops:Array Oper} {R L:af} {B:Nat→Bool} {cp k:Nat} {d:Nat} {op:Op} {ty:TypeId} {pos:String} {after:Array Edge} {ls:List Oper} {v:Value} (he:mD op=false) (hd:Nat.blt d n.tmps=true) (hB:B (k+1000)=true) (iZ:cD P n w0 ⟨some d,op,ty,pos,after,none⟩ E (R*F) v) (h:DL P n w0 ops Q D R L B cp (k+1) true ls ((d,v)::E) F):DL P n w0 ops Q D R L B cp k true (⟨some d,op,ty,pos,after,none⟩::ls) E F:=
 .qs he (by simpa [gC,Nat.blt_eq]using hd) hB ⟨true,rfl⟩ iZ h
def uV (p:da) (nb:UInt32) (s:Option Addr×Nat):da:=({p.1 with before:=sI p.1.before nb},s)
def rE (xs:List da) (d nb:UInt32) (s:Option Addr×Nat):List da:=match fj xs d with
 |some p=>if p.1.valid=true∧p.1.before.length<4∧¬nb∈p.1.before then xs.set (kb d xs) (uV p nb s)else xs
 |none=>xs
attribute [local irreducible] WS LS cD eM cn cv Spec bA aK di cq
variable (w0:World)
theorem Ba (g:Nat) (self:UInt32) (v:Value) (xs:List da) (hl:xs.length≤100) (TX:∀p∈xs,p.1.before.length≤4) (d nb:UInt32):Spec Tryz.prog w0 191 [ptr g 0,u32 d,u32 nb] (eA g self v xs*cQ xs) (fun _:Option Addr×Nat=> .tuple #[]) (fun s=>eA g self v (rE xs d nb s)*cQ (rE xs d nb s)):=by
 refine Spec.enter Tryz.func191 rfl Tryz.ntmps191 rfl fun G=> ?_
 have p1:=iF w0 g self v xs hl d
 unfold eA at*
 simp only[aN,ad]
 cases hg:fj xs d with
 |none=>
  rw[hg]at p1
  simp only[Option.isSome_none]at p1
  have hf:∀s,rE xs d nb s=xs:=fun s=>by unfold rE;rw[hg]
  simp only[hf]
  repeat' (first|(refine ab ?_;intro K hK)|(refine hK _ ?_;clear hK K)|refine ax ?_|(refine aF ?_ ?_<;>intro hc<;>(try simp only[cS]at hc)<;>(try exact aG))|refine az ?_|(refine ai (aa iI rfl p1 iI) rfl ?_;intro u1))
  exact aj (.inl rfl) rfl ⟨(none,0),rfl,ah⟩
 |some p=>
  rw[hg]at p1
  simp only[Option.isSome_some]at p1
  obtain⟨hp,hd⟩:=fl hg
  have P1:∀s,rE xs d nb s=if p.1.valid=true∧p.1.before.length<4∧¬nb∈p.1.before then xs.set (kb d xs) (uV p nb s)else xs:=fun s=>by unfold rE;rw[hg]
  generalize hi:kb d xs=i at*
  have IB:i<xs.length:=(List.getElem?_eq_some_iff.1 hp).1
  by_cases tN:¬p.1.valid=true
  ·have hv:p.1.valid=false:=by simpa using tN
   have mj:(!p.1.valid)=true:=by rw[hv];rfl
   have ID:¬(!p.1.valid)=false:=by rw[hv];simp
   have hf:∀s,rE xs d nb s=xs:=fun s=>by rw[P1,if_neg (fun h=>tN h.1)]
   simp only[hf]
   repeat' (first|(refine ab ?_;intro K hK)|(refine hK _ ?_;clear hK K)|refine ax ?_|(refine aF ?_ ?_<;>intro hc<;>(try simp only[cS]at hc)<;>(try exact aG))|refine az ?_|(refine ai (aa iI rfl p1 iI) rfl ?_;intro u1))
   exact aj (.inl rfl) rfl ⟨(none,0),rfl,ah⟩
  ·have hv:p.1.valid=true:=Decidable.not_not.1 tN
   have mj:(!p.1.valid)=false:=by rw[hv];rfl
   have ID:¬(!p.1.valid)=true:=by rw[hv];simp
   have UL:¬p.1.valid=false:=by rw[hv];simp
   have hb:=rF hp
   have Lw:=cF p.1.before
   have yl:=TX p (List.mem_of_getElem? hp)
   have X9:=lX p.1.before
   have xk:nb∈p.1.before↔(aQ p.1.before)[rC nb (aQ p.1.before)]? =some nb:=by
    rw[←L4 X9]
    exact((List.mergeSort_perm p.1.before _).mem_iff).symm
   rw[hb]
   simp only[ad]
   repeat' (first|(refine ab ?_;intro K hK)|(refine hK _ ?_;clear hK K)|refine ax ?_|(refine aF ?_ ?_<;>intro hc<;>(try simp only[cS]at hc)<;>(try exact aG))|refine az ?_|(refine ai (aa iI rfl p1 iI) rfl ?_;intro u1))
   refine aV (fun kk τ=>∃(k:Nat),k+kk=(aQ p.1.before).length∧(∀j x,j<k→(aQ p.1.before)[j]? =some x→x<nb)∧τ=⟨[(9,.int .i64 (k:Int)),(8,il p.1 p.2),(6,.int .i64 (i:Int)),(2,u32 nb),(0,ptr g 0)],[],aK g 197 [u32 self,v]*(rows 53 7 bJ v xs*(cQ (xs.take i)*(rows 26 1 cA (il p.1 p.2) (aQ p.1.before)*(cQ (xs.drop (i+1))*G))))⟩) ?_ ?_
   ·exact⟨(aQ p.1.before).length,_,⟨0,by omega,fun j x h=>absurd h (by omega),rfl⟩,cG,rfl,ah⟩
   ·rintro kk τ ⟨k,qE,bW,rfl⟩
    have stop:(∀x,(aQ p.1.before)[k]? =some x→¬x<nb)→rC nb (aQ p.1.before)=k:=fun h=>N9 (by omega) bW h
    rcases Nat.lt_or_ge k (aQ p.1.before).length with h|h
    ·have h1:(k:Int)<((aQ p.1.before).length:Int):=by omega
     obtain⟨x,hx⟩:∃x,(aQ p.1.before)[k]? =some x:=⟨_,List.getElem?_eq_getElem h⟩
     by_cases Hs:x<nb
     ·repeat' (first|(refine ab ?_;intro K hK)|(refine hK _ ?_;clear hK K)|refine ax ?_|(refine aF ?_ ?_<;>intro hc<;>(try simp only[cS]at hc)<;>(try exact aG))|refine aX ?_|refine az ?_)
      exact⟨kk - 1,_,by omega,⟨k+1,by omega,fun j y hj hy=>by
       rcases Nat.lt_or_ge j k with h2|h2
       ·exact bW j y h2 hy
       ·obtain rfl:j=k:=by omega
        rw[hx]at hy;cases hy;exact Hs,rfl⟩,cG,rfl,ah⟩
     ·have l5:=stop fun y hy=>by rw[hx]at hy;cases hy;exact Hs
      by_cases Wp:x=nb
      ·have hm:nb∈p.1.before:=xk.2 (by rw[l5,hx,Wp])
       have hf:∀s,rE xs d nb s=xs:=fun s=>by rw[P1,if_neg (fun h=>h.2.2 hm)]
       repeat' (first|(refine ab ?_;intro K hK)|(refine hK _ ?_;clear hK K)|refine ax ?_|(refine aF ?_ ?_<;>intro hc<;>(try simp only[cS]at hc)<;>(try exact aG))|refine aX ?_|refine az ?_)
       exact aj (.inl rfl) rfl ⟨(none,0),rfl,by rw[hf,hb];exact ah⟩
      have sY:¬nb∈p.1.before:=fun hm=>by
       have h2:=xk.1 hm
       rw[l5,hx]at h2
       exact Wp (Option.some.inj h2)
      by_cases h4:4≤p.1.before.length
      ·have TJ:(4:Int)≤((aQ p.1.before).length:Int):=by omega
       have hf:∀s,rE xs d nb s=xs:=fun s=>by rw[P1,if_neg (fun h=>by omega)]
       repeat' (first|(refine ab ?_;intro K hK)|(refine hK _ ?_;clear hK K)|refine ax ?_|(refine aF ?_ ?_<;>intro hc<;>(try simp only[cS]at hc)<;>(try exact aG))|refine aX ?_|refine az ?_)
       exact aj (.inl rfl) rfl ⟨(none,0),rfl,by rw[hf,hb];exact ah⟩
      ·have TJ:¬(4:Int)≤((aQ p.1.before).length:Int):=by omega
       have hf:∀s,rE xs d nb s=xs.set i (uV p nb s):=fun s=>by rw[P1,if_pos ⟨hv,by omega,sY⟩]
       have hN:(((aQ p.1.before).take k++[nb])++(aQ p.1.before).drop k)=aQ (sI p.1.before nb):=by rw[Di sY,zS,l5]
       have TO:=congrArg List.length hN
       have zu:((aQ p.1.before).take k).length=k:=by simp;omega
       have Yf:((aQ p.1.before).drop k).length=(aQ p.1.before).length - k:=by simp
       repeat' (first|(refine ab ?_;intro K hK)|(refine hK _ ?_;clear hK K)|refine ax ?_|(refine aF ?_ ?_<;>intro hc<;>(try simp only[cS]at hc)<;>(try exact aG))|refine aX ?_|refine az ?_|((refine' LQ ?zh rfl ?_);case zh=>intro F';exact dv rfl rfl iI iI iI iI (by first|assumption|omega|(simp[al]<;>omega)))|fail)
       refine fJ (aq.nil _ 26 1 cA none) ?_
       repeat' (first|(show WS _ _ _ (.region 10 _ true) _ _;refine BK 0 (.range 13) 9 [8,1010,1011] (by decide+kernel) rfl rfl iI ?_)|(refine ab ?_;intro K hK)|(refine hK _ ?_;clear hK K)|refine ax ?_|((first|refine' LQ ?zh rfl ?_|refine' bP rfl rfl rfl ?zh ?_|refine' bk rfl rfl ?zh ?_);case zh=>intro F';first|exact bC rfl|exact kC rfl|exact db rfl|exact bq rfl iI rfl|exact cm rfl iI iI rfl|exact cW rfl rfl iI iI iI iI (by first|assumption|omega|(simp[al]<;>omega)))|(refine ai (dH (rows 26 1 cA (il p.1 p.2) (aQ p.1.before)) rfl rfl iI iI iI rfl iI iI ko (by first|omega|(simp[al]<;>omega)) rfl) rfl ?_;intro v2)|(refine ai (au cA [nb] iI iI iI rfl rfl rfl rfl rfl iI rfl rfl rfl) rfl ?_;intro vs)|(refine ai (aR rfl rfl iI iI rfl iI iI ko (by first|omega|(simp[al]<;>omega)) rfl) rfl ?_;intro va)|(refine aD (cn.form _ TO (dH (rows 26 1 cA (il p.1 p.2) (aQ p.1.before)) rfl rfl iI iI iI rfl iI iI ko (by first|omega|(simp[al]<;>omega)) rfl)) rfl rfl rfl ?_;intro s3)|(refine' MZ rfl rfl rfl ?zh ?_;(case zh=>first|exact vH rfl rfl iI iI iI iI (by first|assumption|omega|(simp[al]<;>omega))|exact eG rfl iI iI rfl (by first|assumption|omega|(simp[al]<;>omega))))|(refine' dP ?zh rfl rfl ?_;(case zh=>exact dB (z:=p) (uV p nb s3) rfl rfl iI iI iI rfl hp rfl);intro g5)|fail)
       --tg
       exact aj (.inr rfl) rfl ⟨s3,rfl,by
        have hz:rows 26 1 cA (il (uV p nb s3).1 (uV p nb s3).2) (aQ (uV p nb s3).1.before)=rows 26 1 cA (.slice s3.1 (aQ (sI p.1.before nb)).length s3.2) (((aQ p.1.before).take k++[nb])++(aQ p.1.before).drop k):=by rw[hN];rfl
        rw[hf,kG IB,hz];exact ah⟩
    ·have hk:k=(aQ p.1.before).length:=by omega
     have l5:=stop fun y hy=>by rw[List.getElem?_eq_none (by omega)]at hy;cases hy
     have h1:¬(k:Int)<((aQ p.1.before).length:Int):=by omega
     have sY:¬nb∈p.1.before:=fun hm=>by
      have h2:=xk.1 hm
      rw[l5,List.getElem?_eq_none (by omega)]at h2
      cases h2
     by_cases h4:4≤p.1.before.length
     ·have TJ:(4:Int)≤((aQ p.1.before).length:Int):=by omega
      have hf:∀s,rE xs d nb s=xs:=fun s=>by rw[P1,if_neg (fun h=>by omega)]
      repeat' (first|(refine ab ?_;intro K hK)|(refine hK _ ?_;clear hK K)|refine ax ?_|(refine aF ?_ ?_<;>intro hc<;>(try simp only[cS]at hc)<;>(try exact aG))|refine aX ?_|refine az ?_)
      exact aj (.inl rfl) rfl ⟨(none,0),rfl,by rw[hf,hb];exact ah⟩
     ·have TJ:¬(4:Int)≤((aQ p.1.before).length:Int):=by omega
      have hf:∀s,rE xs d nb s=xs.set i (uV p nb s):=fun s=>by rw[P1,if_pos ⟨hv,by omega,sY⟩]
      have hN:(((aQ p.1.before).take k++[nb])++(aQ p.1.before).drop k)=aQ (sI p.1.before nb):=by rw[Di sY,zS,l5]
      have TO:=congrArg List.length hN
      have zu:((aQ p.1.before).take k).length=k:=by simp;omega
      have Yf:((aQ p.1.before).drop k).length=(aQ p.1.before).length - k:=by simp
      repeat' (first|(refine ab ?_;intro K hK)|(refine hK _ ?_;clear hK K)|refine ax ?_|(refine aF ?_ ?_<;>intro hc<;>(try simp only[cS]at hc)<;>(try exact aG))|refine aX ?_|refine az ?_|((refine' LQ ?zh rfl ?_);case zh=>intro F';exact dv rfl rfl iI iI iI iI (by first|assumption|omega|(simp[al]<;>omega)))|fail)
      refine fJ (aq.nil _ 26 1 cA none) ?_
      repeat' (first|(show WS _ _ _ (.region 10 _ true) _ _;refine BK 0 (.range 13) 9 [8,1010,1011] (by decide+kernel) rfl rfl iI ?_)|(refine ab ?_;intro K hK)|(refine hK _ ?_;clear hK K)|refine ax ?_|((first|refine' LQ ?zh rfl ?_|refine' bP rfl rfl rfl ?zh ?_|refine' bk rfl rfl ?zh ?_);case zh=>intro F';first|exact bC rfl|exact kC rfl|exact db rfl|exact bq rfl iI rfl|exact cm rfl iI iI rfl|exact cW rfl rfl iI iI iI iI (by first|assumption|omega|(simp[al]<;>omega)))|(refine ai (dH (rows 26 1 cA (il p.1 p.2) (aQ p.1.before)) rfl rfl iI iI iI rfl iI iI ko (by first|omega|(simp[al]<;>omega)) rfl) rfl ?_;intro v2)|(refine ai (au cA [nb] iI iI iI rfl rfl rfl rfl rfl iI rfl rfl rfl) rfl ?_;intro vs)|(refine ai (aR rfl rfl iI iI rfl iI iI ko (by first|omega|(simp[al]<;>omega)) rfl) rfl ?_;intro va)|(refine aD (cn.form _ TO (dH (rows 26 1 cA (il p.1 p.2) (aQ p.1.before)) rfl rfl iI iI iI rfl iI iI ko (by first|omega|(simp[al]<;>omega)) rfl)) rfl rfl rfl ?_;intro s3)|(refine' MZ rfl rfl rfl ?zh ?_;(case zh=>first|exact vH rfl rfl iI iI iI iI (by first|assumption|omega|(simp[al]<;>omega))|exact eG rfl iI iI rfl (by first|assumption|omega|(simp[al]<;>omega))))|(refine' dP ?zh rfl rfl ?_;(case zh=>exact dB (z:=p) (uV p nb s3) rfl rfl iI iI iI rfl hp rfl);intro g5)|fail)
      --tg
      exact aj (.inr rfl) rfl ⟨s3,rfl,by
       have hz:rows 26 1 cA (il (uV p nb s3).1 (uV p nb s3).2) (aQ (uV p nb s3).1.before)=rows 26 1 cA (.slice s3.1 (aQ (sI p.1.before nb)).length s3.2) (((aQ p.1.before).take k++[nb])++(aQ p.1.before).drop k):=by rw[hN];rfl
       rw[hf,kG IB,hz];exact ah⟩
end
end Go.Proofs.YtapoehkdnglahabGreat

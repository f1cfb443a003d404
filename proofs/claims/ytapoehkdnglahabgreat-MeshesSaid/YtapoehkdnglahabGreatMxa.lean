/- A part. -/
import Derived.Test.YtapoehkdnglahabGreatM6
import Derived.Test.YtapoehkdnglahabGreatM9
set_option maxHeartbeats 0
set_option maxRecDepth 100000
set_option linter.all false
namespace Go.Proofs.YtapoehkdnglahabGreat
open Go.RowKit
variable (w0:World)
section
attribute [local irreducible] WS LS OpQ y6 cn cv Spec bA aK di cq
theorem Bh (W gn) (s:Nd) (now dst t) (he:s.gA dst t≠0):Spec ucC w0 82 [ptr gn 0,u64 now,u32 dst,aZ t] (j9 W gn s) (λ_:Unit=> .tuple #[xQ,.int .i64 (s.gA dst t)]) (λ_=>j9 W gn s):=by
 refine eZ Tryz.func82 Tryz.ntmps82 λG=> ?_;refine wB (W:=W) (g:=gn) (s:=s) iI λd o tw=> ?_;simp only[aN,bN];unfold Nd.gA at he ⊢;by_cases ht:16<t.length
 ·rw[jF ht];have O5:(16:Int)<(t.length:Int):=by omega
  exact paz
 ·rw[eQ ht]at he ⊢;have O5:¬(16:Int)<(t.length:Int):=by omega
  by_cases h1:dst=s.self
  ·rw[jF (.inl h1)];exact paz
  by_cases h2:dst=0
  ·rw[jF (.inr h2)];exact paz
  ·exact absurd (eQ (by rintro(e|e);exact h1 e;exact h2 e)) he
end
section
section
variable {P:Program} {n:fT} {w0:World} {E:Env} {D:List Deferred} {F:af} {c:Code} {Q:Exit->St->Prop} {g:Nat} {k:RH} {m:Ms}
theorem zcO {H} (hl:Own H (rmI g k m) F) (h:∀va ve,k.hs.length=m.Zs.length->WS P n w0 c Q ⟨E,D,aK g 124 (r6 m k va ve)*(rows 128 1 Z4 k.vs (k.hs.map (·.1))*(rows 131 1 soC k.vh k.hv*(r7 k.hv m.Zs.length m.Zu*(zam k.hs m.Zs*(rows 114 3 flC va m.Zx*F)))))⟩):WS P n w0 c Q ⟨E,D,H⟩:=by
 rw[hl.eq];unfold rmI;refine iU λy=> ?_;have h2:=h y.1 y.2;by_cases hl:k.hs.length=m.Zs.length
 ·rw[ad,ad,ad,ad,ad];exact h2 hl
 ·intro a w gd;exfalso;have e:(aK g 124 (r6 m k y.1 y.2)*(rows 128 1 Z4 k.vs (k.hs.map (·.1))*(rows 131 1 soC k.vh k.hv*(r7 k.hv m.Zs.length m.Zu*(zam k.hs m.Zs*rows 114 3 flC y.1 m.Zx)))))*F=pure' (k.hs.length=m.Zs.length)*(aK g 124 (r6 m k y.1 y.2)*(rows 128 1 Z4 k.vs (k.hs.map (·.1))*(rows 131 1 soC k.vh k.hv*(r7 k.hv m.Zs.length m.Zu*(qY zaJ k.hs m.Zs*(rows 114 3 flC y.1 m.Zx*F)))))):=by
   unfold zam;ac_rfl
  exact hl (gd.sat.cast e).pure.1
theorem zbg {H} (va ve) (e:aq H (aK g 124 (r6 m k va ve)*(rows 128 1 Z4 k.vs (k.hs.map (·.1))*(rows 131 1 soC k.vh k.hv*(r7 k.hv m.Zs.length m.Zu*(zam k.hs m.Zs*(rows 114 3 flC va m.Zx*F))))))):aq H (rmI g k m*F):=by
 unfold rmI;refine aq.mX (p:=λx:Value×Value=>aK g 124 (r6 m k x.1 x.2)*(rows 128 1 Z4 k.vs (k.hs.map (·.1))*(rows 131 1 soC k.vh k.hv*(r7 k.hv m.Zs.length m.Zu*(zam k.hs m.Zs*rows 114 3 flC x.1 m.Zx))))) (va,ve) ?_;rw[ad,ad,ad,ad,ad];exact e
theorem zdX {va ve x s R} (e:zam k.hs m.Zs=zaJ x s*R) (h:∀gn,WS P n w0 c Q ⟨E,D,aK g 124 (r6 m k va ve)*(rows 128 1 Z4 k.vs (k.hs.map (·.1))*(rows 131 1 soC k.vh k.hv*(r7 k.hv m.Zs.length m.Zu*(y9 x gn s*(R*(rows 114 3 flC va m.Zx*F))))))⟩):WS P n w0 c Q ⟨E,D,aK g 124 (r6 m k va ve)*(rows 128 1 Z4 k.vs (k.hs.map (·.1))*(rows 131 1 soC k.vh k.hv*(r7 k.hv m.Zs.length m.Zu*(zam k.hs m.Zs*(rows 114 3 flC va m.Zx*F)))))⟩:=by
 rw[e];have e2:aK g 124 (r6 m k va ve)*(rows 128 1 Z4 k.vs (k.hs.map (·.1))*(rows 131 1 soC k.vh k.hv*(r7 k.hv m.Zs.length m.Zu*(zaJ x s*R*(rows 114 3 flC va m.Zx*F)))))=(hex λgn:Nat=>y9 x gn s)*(aK g 124 (r6 m k va ve)*(rows 128 1 Z4 k.vs (k.hs.map (·.1))*(rows 131 1 soC k.vh k.hv*(r7 k.hv m.Zs.length m.Zu*(R*(rows 114 3 flC va m.Zx*F)))))):=by
  show _=zaJ x s*_;ac_rfl
 rw[e2];refine iU λgn=> ?_;have h3:=h gn;have e3:y9 x gn s*(aK g 124 (r6 m k va ve)*(rows 128 1 Z4 k.vs (k.hs.map (·.1))*(rows 131 1 soC k.vh k.hv*(r7 k.hv m.Zs.length m.Zu*(R*(rows 114 3 flC va m.Zx*F))))))=aK g 124 (r6 m k va ve)*(rows 128 1 Z4 k.vs (k.hs.map (·.1))*(rows 131 1 soC k.vh k.hv*(r7 k.hv m.Zs.length m.Zu*(y9 x gn s*(R*(rows 114 3 flC va m.Zx*F)))))):=by ac_rfl
 rw[e3];exact h3
theorem zcs {H va ve x s R} (gn) (e:zam k.hs m.Zs=zaJ x s*R) (h:aq H (y9 x gn s*(aK g 124 (r6 m k va ve)*(rows 128 1 Z4 k.vs (k.hs.map (·.1))*(rows 131 1 soC k.vh k.hv*(r7 k.hv m.Zs.length m.Zu*(R*(rows 114 3 flC va m.Zx*F)))))))):aq H (rmI g k m*F):=by
 refine zbg va ve ?_;rw[e];have e2:aK g 124 (r6 m k va ve)*(rows 128 1 Z4 k.vs (k.hs.map (·.1))*(rows 131 1 soC k.vh k.hv*(r7 k.hv m.Zs.length m.Zu*(zaJ x s*R*(rows 114 3 flC va m.Zx*F)))))=zaJ x s*(aK g 124 (r6 m k va ve)*(rows 128 1 Z4 k.vs (k.hs.map (·.1))*(rows 131 1 soC k.vh k.hv*(r7 k.hv m.Zs.length m.Zu*(R*(rows 114 3 flC va m.Zx*F)))))):=by ac_rfl
 rw[e2];exact aq.mX (p:=λgn:Nat=>y9 x gn s) gn h
end
attribute [local irreducible] WS LS OpQ y6 cn cv Spec bA aK di cq
theorem zcW (gm k) (m:Ms) (i) (h6:m.Zs.length<=6) (ok:∀(j:Nat) s t,m.Zs[j]? =some s->s.node=some t->aW t.ls):Spec ucC w0 52 [ptr gm 0,.int .i64 i] (rmI gm k m) (λx:{x:Value×List da×af // x.2.1.map (·.1)=((((m.at_ i).bind (·.node)).map λt:Nd=>cE t.ls).getD [])/\aq (rows 53 7 bJ x.1 x.2.1*(cQ x.2.1*x.2.2)) (rmI gm k m)}=>x.1.1) (λx=>rows 53 7 bJ x.1.1 x.1.2.1*(cQ x.1.2.1*x.1.2.2)):=by
 refine eZ Tryz.func52 Tryz.ntmps52 λG=> ?_;have zt:aq (rows 53 7 bJ (.slice none 0 0) []*(cQ []*rmI gm k m)) (rmI gm k m):=by
  have e:cQ []=emp:=rfl;rw[e,aB];exact aq.drop _ _
 have zfm:aq (rmI gm k m*G) ((rows 53 7 bJ (.slice none 0 0) []*(cQ []*rmI gm k m))*G):=by
  have e:cQ []=emp:=rfl;rw[e,aB,ad];exact aq.nil _ _ _ _ _
 refine zcO (g:=gm) (k:=k) (m:=m) iI λva ve yl=> ?_;simp only[aN];have Rg:=zzG yl
 rcases m.zbm i with ⟨l5,hi⟩|⟨j,s,rfl,hs,l5⟩
 ·have p1:=r8 w0 gm m k va ve i m.Zs.length yl;rw[EH (by omega)]at p1;rw[l5];simp only[r6]at p1 ⊢;repeat' (first|intro hc|refine xyZ ?_|refine aF ?_ ?_|refine cZ p1 λu1=> ?_)
  refine aC (.inl rfl) rfl rfl ⟨⟨(.slice none 0 0,[],rmI gm k m),rfl,zt⟩,rfl,aq.trans ?_ zfm⟩;refine zbg va ve ?_;simp only[r6];exact ah
 ·have hj:=(az.1 hs).1;obtain⟨x,JQ⟩:∃x,k.hs[j]? =some x:=⟨_,aX (by omega)⟩
  have hxp:=zzX JQ
  have p1:=r8 w0 gm m k va ve (j:Int) m.Zs.length yl;rw[Dp ⟨by omega,by omega⟩]at p1;obtain⟨R,e1,e2⟩:=zay yl JQ hs;refine zdX e1 λgn=> ?_;rw[l5];simp only[Option.bind_some];have Dy:=fun(H F:af)=>zcs (g:=gm) (k:=k) (m:=m) (H:=H) (F:=F) (va:=va) (ve:=ve) gn e1;unfold y9 at Dy ⊢;simp only[r6,zak]at p1 Dy ⊢;cases ht:s.node with
  |none=>
   simp only[ht,jo,zat]at Dy ⊢;repeat' (first|intro hc|refine xyZ ?_|refine aF ?_ ?_|refine zw1 ?_|refine cZ p1 λu1=> ?_)
   refine aC (.inl rfl) rfl rfl ⟨⟨(.slice none 0 0,[],rmI gm k m),rfl,zt⟩,rfl,aq.trans ?_ zfm⟩;refine Dy _ _ ?_;exact ah
  |some t=>
   have gG:=ok j s t hs ht;simp only[ht,jo,zat,Option.map_some,Option.getD_some]at Dy ⊢;refine wB (W:=⟨x.2.1,none,x.2.2⟩) (g:=gn) (s:=t) iI λd o2 tw=> ?_;refine mP (g:=d.tb) (self:=t.self) (ls:=t.ls) iI λv ys hR=> ?_;have Ns:=hR.list gG;simp only[bN,eA,ad];repeat' (first|intro hc|refine xyZ ?_|refine aF ?_ ?_|refine zw1 ?_|refine cZ p1 λu1=> ?_)
   --tg
   refine aC (.inl rfl) rfl rfl ⟨⟨(v,ys,aK gm 124 [k.vs,k.vh,va,u64 m.now,ve]*(rows 128 1 Z4 k.vs (k.hs.map (·.1))*(rows 131 1 soC k.vh k.hv*(r7 k.hv m.Zs.length m.Zu*(aK x.1 130 [u32 s.addr,ptr gn 0,aZ s.ay,.int .i64 s.Zw,.bool s.ZL]*(aK gn 195 (bN t d o2)*(rows 28 3 Rec.cells d.vr t.aI*(rows 28 3 Rec.cells d.vh d.held*(aK d.tb 197 [u32 t.self,v]*(bc d*(R*rows 114 3 flC va m.Zx))))))))))),Ns,?_⟩,rfl,?_⟩
   ·have h9:=Dy (rows 53 7 bJ v ys*(cQ ys*(aK gm 124 [k.vs,k.vh,va,u64 m.now,ve]*(rows 128 1 Z4 k.vs (k.hs.map (·.1))*(rows 131 1 soC k.vh k.hv*(r7 k.hv m.Zs.length m.Zu*(aK x.1 130 [u32 s.addr,ptr gn 0,aZ s.ay,.int .i64 s.Zw,.bool s.ZL]*(aK gn 195 (bN t d o2)*(rows 28 3 Rec.cells d.vr t.aI*(rows 28 3 Rec.cells d.vh d.held*(aK d.tb 197 [u32 t.self,v]*(bc d*(R*rows 114 3 flC va m.Zx))))))))))))) emp;refine aq.trans (F:=rmI gm k m*emp) (h9 ?_) (aq.of_eq b5);have fin:∀A Z:af,aq (A*(aK gn 195 (bN t d o2)*(rows 28 3 Rec.cells d.vr t.aI*(rows 28 3 Rec.cells d.vh d.held*(aK d.tb 197 [u32 t.self,v]*(rows 53 7 bJ v ys*(cQ ys*(bc d*Z)))))))) (A*(j9 ⟨x.2.1,none,x.2.2⟩ gn t*Z)):=λA Z=>aq.tail _ (aq.j9 o2 tw (aq.tail _ (aq.tail _ (aq.tail _ (aq.ct hR (by unfold eA;exact ah))))));rw[ad (aK x.1 _ _)];refine aq.trans ?_ (fin _ _);simp only[bN];exact ah
   ·simp only[bN];exact ah
end
section
theorem D4 (ls) (ds:List UInt32):((ds.filterMap (dG ls)).map (·.dest)).Sublist ds:=by
 exact paw
theorem CB {ls} (ok:aW ls):((cE ls).map (·.dest)).Pairwise λa b=>a.toNat<b.toNat:=by
 have hn:(aQ (aO ls)).Nodup:=(Z6 _ _).nodup_iff.2 ok.nodup;have hp:(aQ (aO ls)).Pairwise λa b=>a.toNat<=b.toNat:=lX _;have hs:(aQ (aO ls)).Pairwise λa b=>a.toNat<b.toNat:=by
  have:=hp.and hn;exact this.imp λ{a b} h=>Nat.lt_of_le_of_ne h.1 λe=>h.2 (HL.1 e)
 exact hs.sublist (D4 ls _)
def dM (l:List Ln):List Rec:=l.map λx=>gB x.dest x.seq
theorem kJ (l) (x:Ln):dM (l++[x])=dM l++[gB x.dest x.seq]:=by simp[dM]
theorem qi (l:List Ln):(dM l).length=l.length:=by simp[dM]
theorem EC {l:List Ln} (h:(l.map (·.dest)).Pairwise λa b=>a.toNat<b.toNat):og (dM l):=by
 refine⟨?_,λx hx=> ?_⟩
 ·unfold dM;rw[ZY]at h ⊢;refine h.imp λ{a b} hab=> ?_;simp only[gB,Rec.lt,bne_self_eq_false,AT,VC];exact Dp (GM.2 hab)
 ·unfold dM at hx;obtain⟨y,_,rfl⟩:=HC.1 hx;rfl
theorem Twin.Oj (n i0 self q ls si) (d:RD) (h1:d.seen=[]) (h2:d.wait=[]) (h3:d.search=[]) (h4:d.aP=[]) (h5:d.held=[]):Twin ⟨n,none,i0⟩ ({Nd.blank self with seq:=q,ls:=ls,cd:=si}.write ⟨true,0,q⟩) d:=by
 constructor
 ·intro a x;rw[h5];constructor
  ·intro h;cases h
  ·rintro⟨y,hy,_⟩;cases hy
 ·rw[h5];exact og.nil
 ·rw[h5];intro x hx;cases hx
 ·rw[h1];rfl
 ·exact ua1
 ·intro x _;rfl
 ·intro x hx;cases hx
 ·rw[h2];intro dst;rfl
 ·rw[h2];exact uau _
 ·rw[h3];rfl
 ·intro i x y hx;cases hx
 ·exact ua1
 ·exact List.Pairwise.nil
 ·intro t ht;cases ht
 ·rw[h4];rfl
 ·rw[h4];exact List.Pairwise.nil
 ·rw[h4];intro t ht;cases ht
 ·rw[h4];rfl
 ·exact List.Pairwise.nil
 ·exact List.Pairwise.nil
 ·intro t ht;cases ht
 ·exact uau _
structure M6 (s t:Nd) (l:List Ln):Prop where
 aI:t.aI=s.aI++dM l
 Yt:t.out.ay=s.out.ay++b9 (dM l)
 same:t.ls=s.ls/\t.self=s.self/\t.seq=s.seq/\t.own=s.own/\t.cd=s.cd/\t.last=s.last/\t.ids=s.ids/\t.ff=s.ff/\t.now=s.now
 out:t.out.aJ=s.out.aJ/\t.out.cj=s.out.cj/\t.out.dropped=s.out.dropped
theorem E5 (l) (r:Rec):b9 (l++[r])=b9 l++r.bytes:=by simp[b9]
theorem Twin.Pj {W} {s:Nd} (L:List Ln) (hp:(L.map (·.dest)).Pairwise λa b=>a.toNat<b.toNat) (hm:∀l∈L,l∈s.ls):∀(d:RD),Twin W s d->d.held=[]->Twin W (L.foldl Nd.cf s) {d with held:=dM L}/\M6 s (L.foldl Nd.cf s) L:=by
 intro d h hd;induction L using eE with
 |nil=>
  refine⟨?_,?_⟩
  ·have:({d with held:=dM []}:RD)=d:=by rw[show dM []=d.held from hd.symm]
   rw[this];exact h
  ·exact⟨by simp[dM],by simp[dM,b9],⟨rfl,rfl,rfl,rfl,rfl,rfl,rfl,rfl,rfl⟩,⟨rfl,rfl,rfl⟩⟩
 |snoc L x ih=>
  have ma:=hp;rw[EZ,Z0]at ma;obtain⟨i1,i2⟩:=ih ma.1 λl hl=>hm l (by simp[hl]);rw[uaL];simp only[Uq,uah];generalize L.foldl Nd.cf s=t at*
  have Es:¬gH (dM L) x.dest x.seq=true:=by
   rw[xu];rintro⟨r,h1,h2,_⟩;unfold dM at h1;obtain⟨y,hy,rfl⟩:=HC.1 h1;have h3:=ma.2.2 y.dest (YY hy) x.dest (by simp);have h2:y.dest=x.dest:=h2;rw[h2]at h3;omega
  have hx:x∈t.ls:=by rw[i2.same.1];exact hm x (by simp)
  have e1:=i1.cf x;rw[eQ Es]at e1;rw[e1];have hi:=EC hp;rw[kJ]at hi;have e2:=hi.comp;refine⟨?_,?_⟩
  ·have h1:=(i1.line hx d.vr d.vh).resolve_right Es;rw[kJ];simp only at h1;rw[e2]at h1;exact h1
  ·obtain⟨k1,k2,k3,k4⟩:=i2;exact⟨by rw[kJ,<-EK,<-k1];rfl,by rw[kJ,E5,<-EK,<-k2];rfl,k3,k4⟩
theorem Nd.CN (n i0 self b now) (d:RD) (h1:d.seen=[]) (h2:d.wait=[]) (h3:d.search=[]) (h4:d.aP=[]) (h5:d.held=[]):Twin ⟨n,none,i0⟩ (Nd.new self b now) {d with held:=dM (cE (Nd.bO self b now).ls)}/\M6 ((Nd.bO self b now).write ⟨true,0,(Nd.bO self b now).seq⟩) (Nd.new self b now) (cE (Nd.bO self b now).ls):=by
 obtain⟨q,ls,si,e⟩:∃q ls si,Nd.bO self b now={Nd.blank self with seq:=q,ls:=ls,cd:=si}:=by
  unfold Nd.bO;split
  ·exact⟨_,_,_,rfl⟩
  ·exact⟨1,[],0,rfl⟩
 have ok:=Nd.px self b now;unfold Nd.new;rw[e]at ok ⊢;have t0:=Twin.Oj n i0 self q ls si d h1 h2 h3 h4 h5;have en:Nd.note ({Nd.blank self with seq:=q,ls:=ls,cd:=si}.write ⟨true,0,q⟩)=(cE ls).foldl Nd.cf ({Nd.blank self with seq:=q,ls:=ls,cd:=si}.write ⟨true,0,q⟩):=by
  unfold Nd.note Nd.dh;rw[eQ (by exact UInt32.lt_irrefl q)];rfl
 rw[en];exact Twin.Pj (cE ls) (CB ok) (λl hl=>lO hl) d t0 h5
theorem Nd.sq (self b now):(Nd.new self b now).aI=⟨true,0,(Nd.bO self b now).seq⟩::dM (cE (Nd.bO self b now).ls)/\(Nd.new self b now).out.ay=b9 (Nd.new self b now).aI/\(Nd.new self b now).out.aJ=[]/\(Nd.new self b now).out.cj=[]/\(Nd.new self b now).out.dropped=[]/\(Nd.new self b now).own=(Nd.bO self b now).seq:=by
 obtain⟨_,k⟩:=Nd.CN 0 0 self b now ⟨0,.bool true,.bool true,.bool true,.bool true,.bool true,.bool true,.bool true,.bool true,.bool true,[],[],[],[],[]⟩ rfl rfl rfl rfl rfl;have e:(Nd.bO self b now).aI=[]/\(Nd.bO self b now).out=dS.zero:=by
  unfold Nd.bO;split<;>exact⟨rfl,rfl⟩
 obtain⟨k1,k2,k3,k4⟩:=k;have r1:((Nd.bO self b now).write ⟨true,0,(Nd.bO self b now).seq⟩).aI=[⟨true,0,(Nd.bO self b now).seq⟩]:=by unfold Nd.write;rw[e.1];rfl
 have r2:((Nd.bO self b now).write ⟨true,0,(Nd.bO self b now).seq⟩).out.ay=b9 [⟨true,0,(Nd.bO self b now).seq⟩]:=by unfold Nd.write;rw[e.2];simp[dS.zero,b9]
 have r3:((Nd.bO self b now).write ⟨true,0,(Nd.bO self b now).seq⟩).out.aJ=[]/\((Nd.bO self b now).write ⟨true,0,(Nd.bO self b now).seq⟩).out.cj=[]/\((Nd.bO self b now).write ⟨true,0,(Nd.bO self b now).seq⟩).out.dropped=[]:=by unfold Nd.write;rw[e.2];exact⟨rfl,rfl,rfl⟩
 rw[r1]at k1;rw[r2]at k2;refine⟨k1,?_,k4.1.trans r3.1,k4.2.1.trans r3.2.1,k4.2.2.trans r3.2.2,k3.2.2.2.1⟩;rw[k1,k2];simp[b9]
theorem zw:cE []=[]:=by
 unfold cE;rw[show aQ (aO [])=[]from uaZ.1 (by rw[cF];rfl)];rfl
theorem B2 (n i0 self b now) {H F} (gn tb vr vh q si ls) (eb:Nd.bO self b now={Nd.blank self with seq:=q,ls:=ls,cd:=si}) (e:aq H (aK gn 195 [u32 self,u32 q,ptr tb 0,vr,u64 si,.slice none 0 0,.slice none 0 0,.slice none 0 0,.int .i64 0,u32 0,u32 0,.slice none 0 0,u64 0,aZ [],.bool false,.slice none 0 0,.slice none 0 0,.slice none 0 0,vh,u32 q]*(rows 28 3 Rec.cells vr (⟨true,0,q⟩::dM (cE ls))*(rows 28 3 Rec.cells vh (dM (cE ls))*(ct tb self ls*F))))):
 aq H ((j9 ⟨n,none,i0⟩ gn (Nd.new self b now)*r5 (Nd.gZ self b now) (.slice none 0 0,.slice none 0 0,.slice none 0 0))*F):=by
 obtain⟨tw,wr⟩:=Nd.CN n i0 self b now ⟨tb,vr,.slice none 0 0,.slice none 0 0,.slice none 0 0,.slice none 0 0,.slice none 0 0,.slice none 0 0,.slice none 0 0,vh,[],[],[],[],[]⟩ rfl rfl rfl rfl rfl
 obtain⟨k1,k2,k3,k4,k5,k6⟩:=Nd.sq self b now
 obtain⟨_,_,⟨s1,s2,s3,s4,s5,s6,s7,s8,s9⟩,_⟩:=wr
 rw[eb]at tw k1 s1 s2 s3 s4 s5 s6 s7 s8 s9
 have f1:(Nd.gZ self b now).aJ=[]:=k3
 have f2:(Nd.gZ self b now).cj=[]:=k4
 have f3:(Nd.gZ self b now).dropped=[]:=k5
 rw[ad]
 refine aq.j9 dS.zero tw ?_
 unfold r5 bc cc
 rw[f1,f2,f3]
 simp only[bN,k1,s1,s2,s3,s4,s5,s6,s7,s8,s9,Nd.write,Nd.blank,dS.zero,YZ,ad]
 refine e.trans ?_
 refine(aq.nil _ 48 2 dA none).trans ?_
 refine(aq.nil _ 70 2 dA none).trans ?_
 refine(aq.nil _ 166 1 lr none).trans ?_
 refine(aq.nil _ 312 3 jM none).trans ?_
 refine(aq.nil _ 243 2 dA none).trans ?_
 refine(aq.nil _ 210 6 skC none).trans ?_
 refine(aq.nil _ 24 1 eL none).trans ?_
 exact ah
attribute [local irreducible] WS LS OpQ y6 cn cv Spec bA aK di cq
theorem E9 (b now):Spec ucC w0 45 [u32 0,aZ b,u64 now] emp (λ_:Unit=> .tuple #[.pointer none,xQ,.int .i64 5]) (λ_=>emp):=by
 refine eZ Tryz.func45 Tryz.ntmps45 λG=> ?_;simp only[aN];have hz:(0:UInt32)=0:=rfl;repeat' (first|intro hc|refine yZ ?_|refine aF ?_ ?_|refine zw8 ?_)
 exact qm (.inl rfl) rfl (bh rfl) (aS rfl iI iI rfl) (bh rfl) ⟨(),rfl,ah⟩
theorem Ic (n i0 self) (h0:self≠0) (b:List UInt8) (hb:b.length<=1000000) (now):Spec ucC w0 45 [u32 self,aZ b,u64 now] emp (λx:Nat×(Value×Value×Value)=> .tuple #[ptr x.1 0,fp (Nd.gZ self b now) x.2,.int .i64 0]) (λx=>j9 ⟨n,none,i0⟩ x.1 (Nd.new self b now)*r5 (Nd.gZ self b now) x.2):=by
 refine eZ Tryz.func45 Tryz.ntmps45 λG=> ?_;simp only[aN];obtain⟨k1,k2,k3,k4,k5,k6⟩:=Nd.sq self b now;by_cases JP:b=[]
 ·subst JP;have p1:=mz w0 ⟨true,0,1⟩;simp only[Rec.cells]at p1;have eb:Nd.bO self [] now={Nd.blank self with seq:=1,ls:=[],cd:=0}:=rfl;repeat' (first|(refine hK _ ?_;clear hK K)|intro K hK|intro hc|refine xyZ ?_|refine aF ?_ ?_|refine zw2 ?_|refine bT λg=> ?_|refine bQ λg=> ?_|(refine ai (au Rec.cells [⟨true,0,1⟩] iI iI iI rfl rfl rfl rfl rfl iI rfl rfl rfl) rfl ?_;intro vr)|refine cZ p1 λu1=> ?_)
  rename_i x7 x6 x5 x4 x3 x2 x1 x0;have hO:Nd.gZ self [] now=⟨Rec.bytes ⟨true,0,1⟩,false,[],[],[]⟩:=by
   have h1:(Nd.gZ self [] now).ay=_:=k2;have h2:(Nd.gZ self [] now).aJ=[]:=k3;have h3:(Nd.gZ self [] now).cj=[]:=k4;have h4:(Nd.gZ self [] now).dropped=[]:=k5;have h5:(Nd.gZ self [] now).replace=false:=rfl;rw[k1,eb]at h1;generalize Nd.gZ self [] now=o at*
   obtain⟨a1,a2,a3,a4,a5⟩:=o;simp only at h1 h2 h3 h4 h5;rw[h1,h2,h3,h4,h5];simp[Nd.blank,b9,dM,zw]
  refine qm (.inl rfl) rfl (bh rfl) (aS rfl iI iI rfl) (bh rfl) ⟨(x6,(.slice none 0 0,.slice none 0 0,.slice none 0 0)),by rw[hO];rfl,?_⟩;refine B2 n i0 self [] now x6 x5 vr (.slice none 0 0) 1 0 [] eb ?_;rw[zw];simp only[aB,dM,Xp];refine(aq.nil _ 28 3 Rec.cells none).trans ?_;refine(aq.nil _ 53 7 bJ none).trans ?_;have fin:∀A B C Z:af,aq (A*(B*(C*(aK x5 197 [u32 self,.slice none 0 0]*(rows 53 7 bJ (.slice none 0 0) []*Z))))) (A*(B*(C*(ct x5 self []*Z)))):=λA B C Z=>aq.tail _ (aq.tail _ (aq.tail _ (aq.ct (v:= .slice none 0 0) (xs:=[]) dc.nil (by unfold eA cQ;simp only[aB];exact ah))));refine aq.trans ?_ (fin _ _ _ _);have ez:(Value.int .u32 1:Value)=u32 1:=rfl;rw[ez];exact ah
 ·have yl:0<b.length:=uaX.2 JP;have p1:=Fc w0 b hb;have hl:=sD b;have eb:Nd.bO self b now={Nd.blank self with seq:=bS (df (ic b)),ls:=iV self (cC (ic b)),cd:=now+2000}:=by unfold Nd.bO;rw[jF yl]
  have ok:=Nd.px self b now;rw[eb]at ok k1;generalize hj:ic b=l at*
  repeat' (first|(refine hK _ ?_;clear hK K)|intro K hK|intro hc|refine xyZ ?_|refine aF ?_ ?_|refine zw4 ?_|(refine ai (ph iI) rfl ?_;intro g0)|(refine ai (rj rfl) rfl ?_;intro gn)|refine cZ p1 λvl=> ?_)
  obtain⟨C0,VK⟩:∃C0:af,C0=aK gn 195 [u32 self,.int .u32 1,.pointer none,.slice none 0 0,u64 0,.slice none 0 0,.slice none 0 0,.slice none 0 0,.int .i64 0,u32 0,u32 0,.slice none 0 0,u64 0,aZ [],.bool false,.slice none 0 0,.slice none 0 0,.slice none 0 0,.slice none 0 0,u32 0]*(aK g0 35 [aZ [],.bool false,.slice none 0 0,.slice none 0 0,.slice none 0 0]*G):=⟨_,rfl⟩
  refine aV (λk τ=>∃j:Nat,j+k=l.length/\τ=⟨[(14,.int .i64 (j:Int)),(13,u32 (df (l.take j))),(11,vl),(9,ptr gn 0),(7,ptr g0 0),(0,u32 self),(0+1+1,u64 now)],[],rows 28 3 Rec.cells vl l*C0⟩) ?_ ?_
  ·exact⟨l.length,_,⟨0,by omega,rfl⟩,cG,rfl,by rw[VK];simp only[aB];exact ah⟩
  rintro k τ ⟨j,ym,rfl⟩;rcases jP j l.length with bW|kQ
  ·have h1:(j:Int)<(l.length:Int):=by omega
   obtain⟨⟨zo,za,zs⟩,hz⟩:∃z,l[j]? =some z:=⟨_,aX bW⟩
   have gK:df (l.take (j+1))=if zo then max (df (l.take j)) zs else df (l.take j):=by rw[AP,hz,Qf,uF]
   generalize df (l.take j)=m at*
   cases zo with
   |false=>
    repeat' (first|(refine hK _ ?_;clear hK K)|intro K hK|intro hc|refine xyZ ?_|refine aF ?_ ?_|refine zw8 ?_)
    exact⟨k - 1,_,by omega,⟨j+1,by omega,rfl⟩,⟨rfl,by rw[gK];rfl,rfl,rfl,rfl,rfl,rfl,trivial⟩,rfl,ah⟩
   |true=>
    have Ml:max m zs=if m<=zs then zs else m:=rfl
    rw[jF rfl,Ml]at gK;by_cases hm:m<zs
    ·rw[jF (ubu hm)]at gK;repeat' (first|(refine hK _ ?_;clear hK K)|intro K hK|intro hc|refine xyZ ?_|refine aF ?_ ?_|refine zw8 ?_)
     exact⟨k - 1,_,by omega,⟨j+1,by omega,rfl⟩,⟨rfl,by rw[gK];rfl,rfl,rfl,rfl,rfl,rfl,trivial⟩,rfl,ah⟩
    ·have UI:df (l.take (j+1))=m:=by
      rw[gK];split
      ·rename_i h2;exact ub3 (ubR.1 hm) h2
      ·rfl
     repeat' (first|(refine hK _ ?_;clear hK K)|intro K hK|intro hc|refine xyZ ?_|refine aF ?_ ?_|refine zw2 ?_)
     exact⟨k - 1,_,by omega,⟨j+1,by omega,rfl⟩,⟨rfl,by rw[UI];rfl,rfl,rfl,rfl,rfl,rfl,trivial⟩,rfl,ah⟩
  have h1:¬(j:Int)<(l.length:Int):=by omega
  rw[Gz kQ,VK];have p2:=kL w0 (df l);have p3:=PB w0 self l (by omega) vl (rows 28 3 Rec.cells vl l);obtain⟨q,hq⟩:∃q,q=bS (df l):=⟨_,rfl⟩
  obtain⟨ls,Nh⟩:∃ls,ls=iV self (cC l):=⟨_,rfl⟩
  rw[<-hq,<-Nh]at eb k1 ok;rw[<-hq]at p2;rw[<-Nh]at p3;have Ul:=iO ls;have Um:ls.length<=8:=ok.short;repeat' (first|(refine hK _ ?_;clear hK K)|intro K hK|intro hc|refine xyZ ?_|refine aF ?_ ?_|refine zw4 ?_|refine zw1 ?_|refine bQ λg=> ?_|refine cZ p2 λu2=> ?_|refine cZ p3 λtb=> ?_|(refine ai (au Rec.cells [⟨true,0,q⟩] iI iI iI rfl rfl rfl rfl rfl iI rfl rfl rfl) rfl ?_;intro vr))
  refine mP (g:=tb) (self:=self) (ls:=ls) iI λv xs hR=> ?_;have Ly:=hR.list ok;have Yo:(cE ls).length=xs.length:=by rw[<-Ly,Hu]
  refine cV (aq.nil _ 28 3 Rec.cells none) ?_;refine aV (λk τ=>∃(i:Nat) (va vh:Value),i+k=xs.length/\τ=⟨[(15,.int .i64 (i:Int)),(9,ptr gn 0),(7,ptr g0 0)],[],aK gn 195 [u32 self,u32 q,ptr tb 0,va,u64 (now+2000),.slice none 0 0,.slice none 0 0,.slice none 0 0,.int .i64 0,u32 0,u32 0,.slice none 0 0,u64 0,aZ [],.bool false,.slice none 0 0,.slice none 0 0,.slice none 0 0,vh,u32 q]*(rows 28 3 Rec.cells va (⟨true,0,q⟩::dM ((cE ls).take i))*(rows 28 3 Rec.cells vh (dM ((cE ls).take i))*(aK tb 197 [u32 self,v]*(rows 53 7 bJ v xs*(cQ xs*(aK g0 35 [aZ [],.bool false,.slice none 0 0,.slice none 0 0,.slice none 0 0]*G))))))⟩) ?_ ?_
  ·exact⟨xs.length,_,⟨0,vr,.slice none 0 0,by omega,rfl⟩,cG,rfl,by simp only[uai,dM,Xp,aB];exact ah⟩
  rintro k τ ⟨i,va,vh,qE,rfl⟩;rcases jP i xs.length with h|h
  ·have h1:(i:Int)<(xs.length:Int):=by omega
   obtain⟨p,hp⟩:∃z,xs[i]? =some z:=⟨_,aX h⟩
   have hL:(cE ls)[i]? =some p.1:=by rw[<-Ly,zA,hp];rfl
   have gK:(cE ls).take (i+1)=(cE ls).take i++[p.1]:=by rw[AP,hL];rfl
   have Eo:(dM ((cE ls).take i)).length<=8:=by rw[qi];exact WA (List.length_take_le' _ _) (WA Ul Um)
   generalize (cE ls).take i=L at*
   repeat' (first|(refine hK _ ?_;clear hK K)|refine ae (id:=25) (.range 25) 24 [3,6,8,9,10,14,17,19,20,21] ?_|refine ae (id:=26) (.range 11) 7 [4,5] ?_|refine zaN (id:=26) 9 16 (.range 11) 10 [4] ?_|refine ae (id:=27) (.range 11) 7 [4,5] ?_|refine zaN (id:=27) 9 16 (.range 11) 10 [4] ?_|intro K hK|intro hc|refine xyZ ?_|refine aF ?_ ?_|refine zw3 λg=> ?_|refine zbj ?_|refine bQ λg=> ?_|(refine aD (au Rec.cells [⟨false,p.1.dest,p.1.seq⟩] iI iI iI rfl rfl rfl rfl rfl iI rfl rfl rfl) rfl rfl rfl ?_;intro vx)|(refine aD (aR rfl rfl iI iI rfl iI iI cO (by first|omega|(simp[al]<;>omega)) rfl) rfl rfl rfl ?_;intro vy))
   --tg
   rename_i YT Zn;exact⟨k - 1,_,by omega,⟨i+1,YT,vy,by omega,rfl⟩,cG,rfl,by rw[gK,kJ,<-YW];unfold gB;exact ah⟩
  have h1:¬(i:Int)<(xs.length:Int):=by omega
  rw[Gz (by omega)];have S1:(({own:=true,addr:=0,seq:=q}:Rec)::dM (cE ls)).length<=10000:=by rw[Pr,qi];omega
  have p4:=qq w0 (⟨true,0,q⟩::dM (cE ls)) S1 va (rows 28 3 Rec.cells va (⟨true,0,q⟩::dM (cE ls)));repeat' (first|(refine hK _ ?_;clear hK K)|intro K hK|intro hc|refine xyZ ?_|refine aF ?_ ?_|refine zw4 ?_|refine bQ λg=> ?_|refine cZ p4 λu4=> ?_)
  --Vx
  have hO:Nd.gZ self b now=⟨b9 (⟨true,0,q⟩::dM (cE ls)),true,[],[],[]⟩:=by
   have h1:(Nd.gZ self b now).ay=_:=k2;have h2:(Nd.gZ self b now).aJ=[]:=k3;have h3:(Nd.gZ self b now).cj=[]:=k4;have h4:(Nd.gZ self b now).dropped=[]:=k5;have h5:(Nd.gZ self b now).replace=true:=Dp yl;rw[k1]at h1;generalize Nd.gZ self b now=o at*
   obtain⟨a1,a2,a3,a4,a5⟩:=o;simp only at h1 h2 h3 h4 h5;rw[h1,h2,h3,h4,h5]
  refine qm (.inl rfl) rfl (bh rfl) (aS rfl iI iI rfl) (bh rfl) ⟨(gn,(.slice none 0 0,.slice none 0 0,.slice none 0 0)),by rw[hO];rfl,?_⟩;refine B2 n i0 self b now gn tb va vh q (now+2000) ls eb ?_;have fin:∀A B C Z:af,aq (A*(B*(C*(aK tb 197 [u32 self,v]*(rows 53 7 bJ v xs*(cQ xs*Z)))))) (A*(B*(C*(ct tb self ls*Z)))):=λA B C Z=>aq.tail _ (aq.tail _ (aq.tail _ (aq.ct hR (by unfold eA;exact ah))));refine aq.trans ?_ (fin _ _ _ _);exact ah
end
theorem Spec.MF {P:Program} {w0:World} {f:FuncId} {args:List Value} {X:af} {α:Type} {res:α->Value} {A B:α->af} {φ:α->Prop} (h:Spec P w0 f args X res (λx=>A x*(pure' (φ x)*B x))):Spec P w0 f args X (λx:{x // φ x}=>res x.1) (λx=>A x.1*B x.1):=λG w hs=>(h G w hs).mono λe w' ⟨x,he,hx⟩=>by
 have qb:Sat w0 w' (pure' (φ x)*(A x*B x*G)):=hx.cast (by ac_rfl);obtain⟨hp,Wo⟩:=qb.pure;exact⟨⟨x,hp⟩,he,Wo⟩
section
theorem zex (a b c w):
 (binOp .neq 114 (.agg #[.int .i64 a,.int .i64 b,.string c]) (.agg #[.int .i64 a,.int .i64 b,.string c])).run ucC w= .ok (.bool false) w:=by
 have u4:=Tryz.underlying3
 have u9:=Tryz.underlying9
 have hS:Tryz.prog.underlying 114=some (.struct (Tryz.prog.fieldsOf 114)):=by kernel_rfl
 have hp:Tryz.prog.stoodInHeld 114=false:=by kernel_rfl
 rw[run_neq_struct,show(10000:Nat)=9999+1 from rfl,run_equalIn_agg w 9999 114 _ _ hS hp]
 simp only[Program.fieldsOf,Tryz.underlying114]
 go_simp
instance zgc (z:Fl):dL ucC .neq 114 (.agg (flC z).toArray) (.agg (flC z).toArray) (.bool (!decide (z.bytes=z.bytes))):=⟨λw=>by rw[Dp rfl];exact zex _ _ _ w,λw x y=>by apply run_eqGuard_agg;kernel_rfl⟩
def Ms.zdm (m:Ms) (i:Int):List Ln:=((((m.at_ i).bind (·.node)).map λt:Nd=>cE t.ls).getD [])
theorem Ms.zeu {m:Ms} {c} (hf:m.zaQ c) (i):(m.zdm i).length<=1000/\∀p∈m.zdm i,p.before.length<=1000:=by
 unfold Ms.zdm;rcases m.zbm i with ⟨l5,hi⟩|⟨j,s,rfl,hs,l5⟩
 ·rw[l5];exact⟨by simp,λp hp=>by cases hp⟩
 ·rw[l5];simp only[G6];cases ht:s.node with
  |none=>exact⟨by simp,λp hp=>by cases hp⟩
  |some t=>
   have ok:=((hf.sound j s hs).node t ht).1.inv.dp.dp;simp only[EL,CV];refine⟨?_,λp hp=> ?_⟩
   ·have h2:=iO t.ls;have h3:=ok.short;omega
   ·have:=ok.before p (lO hp);omega
theorem Ms.zeA {m:Ms} {c} (hf:m.zaQ c) (i):(((m.at_ i).map (·.ay)).getD []).length<=312:=by
 rcases m.zbm i with ⟨l5,_⟩|⟨j,s,rfl,hs,l5⟩
 ·rw[l5];simp
 ·rw[l5];exact(hf.sound j s hs).Yt
structure zge (p:Prop):Prop where
 h:p
theorem Spec.zgG {P:Program} {w0:World} {f:FuncId} {args:List Value} {X X' Y Z:af} {α:Type} {res:α->Value} {post:α->af} (h:Spec P w0 f args X res post) (hp:aq X' (X*Z)) (hq:∀x,aq (post x*Z) Y):Spec P w0 f args X' res (λ_=>Y):=λG w hs=>by
 have h1:=((aq.star hp (aq.refl G)).sat hs).cast (ad _ _ _);refine(h (Z*G) w h1).mono λe w' hx=> ?_;obtain⟨x,he,hx⟩:=hx;exact⟨x,he,(aq.star (hq x) (aq.refl G)).sat (hx.cast (ad _ _ _).symm)⟩
attribute [local irreducible] WS LS OpQ y6 cn cv Spec bA aK di cq
theorem zdA (gm gr k kr) (m:Ms) (c) (hf:m.zaQ c):Spec ucC w0 30 [ptr gm 0,ptr gr 0] (zaj gm k m*rmI gr kr m) (λ_:Unit=> .bool true) (λ_=>zaj gm k m*rmI gr kr m):=by
 refine eZ Tryz.func30 Tryz.ntmps30 λG=> ?_;have h6:=hf.short;have zda:=hf.Zx.QG;have ok:∀(j:Nat) s t,m.Zs[j]? =some s->s.node=some t->aW t.ls:=λj s t hs ht=>((hf.sound j s hs).node t ht).1.inv.dp.dp;have p0:=zeb w0 gm k m zda;rw[ad];refine zcO (g:=gr) (k:=kr) (m:=m) iI λva ve yl=> ?_;have Rg:(kr.hs.map (·.1)).length=m.Zs.length:=by rw[Hu];exact yl
 simp only[aN,r6];repeat' (first|(refine hK _ ?_;clear hK K)|intro K hK|intro hc|refine xyZ ?_|refine aF ?_ ?_|refine zha ?_|refine cZ p0 λv=> ?_)
 refine aV (λkk τ=>∃(i:Nat) (l0:List Fl),i+kk=m.Zx.length/\l0.length=m.Zx.length/\l0.drop i=m.Zx.drop i/\τ=⟨[(6,.int .i64 (i:Int)),(5,v),(1,ptr gr 0),(0,ptr gm 0)],[],rows 114 3 flC v l0*(aK gr 124 [kr.vs,kr.vh,va,u64 m.now,ve]*(rows 114 3 flC va m.Zx*(rows 128 1 Z4 kr.vs (kr.hs.map (·.1))*(rows 131 1 soC kr.vh kr.hv*(r7 kr.hv m.Zs.length m.Zu*(zam kr.hs m.Zs*(zaj gm k m*G)))))))⟩) ?_ ?_
 ·exact⟨m.Zx.length,_,⟨0,m.Zx,by omega,rfl,rfl,rfl⟩,cG,rfl,ah⟩
 rintro kk τ ⟨i,l0,qE,En,hd,rfl⟩;rcases jP i m.Zx.length with h|h
 ·have h1:(i:Int)<(l0.length:Int):=by omega
  obtain⟨z,hz⟩:∃z,m.Zx[i]? =some z:=⟨_,aX h⟩
  have Kf:=vP hd hz;have rU:(l0.set i ⟨0,0,[]⟩).drop (i+1)=m.Zx.drop (i+1):=by rw[zaR];exact pD hd
  repeat' (first|(refine hK _ ?_;clear hK K)|refine zgZ ?_|intro K hK|intro hc|refine xyZ ?_|refine aF ?_ ?_|refine zbq ?_|(refine bL (gV (⟨0,0,[]⟩:Fl) rfl rfl rfl iI iI iI rfl rfl (by first|assumption|omega)) ?_;intro gx))
  exact⟨kk - 1,_,by omega,⟨i+1,_,by omega,by rw[TY];exact En,rU,rfl⟩,cG,rfl,ah⟩
 have h1:¬(i:Int)<(l0.length:Int):=by omega
 clear hd qE h;repeat' (first|(refine hK _ ?_;clear hK K)|intro K hK|intro hc|refine xyZ ?_|refine aF ?_ ?_|refine zw4 ?_)
 refine aV (λkk τ=>∃(iz:Int),iz+kk=(m.Zs.length:Int)+1/\ -1<=iz/\τ=⟨[(7,.int .i64 iz),(1,ptr gr 0),(0,ptr gm 0)],[],zaj gm k m*(rmI gr kr m*G)⟩) ?_ ?_
 ·refine⟨m.Zs.length+2,_,⟨-1,by omega,by omega,rfl⟩,cG,rfl,?_⟩;rw[aM (zaj gm k m) (rmI gr kr m)];refine zbg va ve ?_;simp only[r6];exact ah
 clear yl Rg h1 En p0;rintro kk τ ⟨iz,qE,zq,rfl⟩;refine zcO (g:=gr) (k:=kr) (m:=m) iI λva ve yl=> ?_;have Rg:(kr.hs.map (·.1)).length=m.Zs.length:=by rw[Hu];exact yl
 simp only[r6];by_cases h:iz<=((kr.hs.map (·.1)).length:Int)
 ·have Dy:aq (aK gr 124 [kr.vs,kr.vh,va,u64 m.now,ve]*(rows 128 1 Z4 kr.vs (kr.hs.map (·.1))*(rows 131 1 soC kr.vh kr.hv*(r7 kr.hv m.Zs.length m.Zu*(zam kr.hs m.Zs*(rows 114 3 flC va m.Zx*(zaj gm k m*G))))))) (zaj gm k m*(rmI gr kr m*G)):=by
   rw[aM (zaj gm k m) (rmI gr kr m)];refine zbg va ve ?_;simp only[r6];exact aq.refl _
  obtain⟨O5,htb⟩:=Ms.zeu hf iz;obtain⟨J,hJ⟩:∃J,(((m.at_ iz).map (·.ay)).getD [])=J:=⟨_,rfl⟩
  obtain⟨b,hb⟩:∃b,((m.at_ iz).bind (·.node)).isSome=b:=⟨_,rfl⟩
  have p1:=(zcF w0 gm k m iz h6 ok).MF;have p2:=zcW w0 gr kr m iz h6 ok;have p3:=fun(x:{x:Value×List da // x.2.map (·.1)=m.zdm iz}) (y:{x:Value×List da×af // x.2.1.map (·.1)=m.zdm iz/\aq (rows 53 7 bJ x.1 x.2.1*(cQ x.2.1*x.2.2)) (rmI gr kr m)})=>(ED w0 x.1.2 y.1.2.1 (x.2.trans y.2.1.symm) (by have h1:=G2 List.length x.2;rw[Hu]at h1;omega) (λp hp=>htb p.1 (by rw[<-x.2];exact YY hp)) x.1.1 y.1.1).zgG (Z:=y.1.2.2) (X':=rows 53 7 bJ x.1.1 x.1.2*(cQ x.1.2*(rows 53 7 bJ y.1.1 y.1.2.1*(cQ y.1.2.1*y.1.2.2)))) (by rw[ad,ad,ad];exact aq.refl _) (λ_=>by rw[ad];exact y.2.2);have p4:=zcD w0 gm k m iz h6 (λj s hs=>by have:=(hf.sound j s hs).Yt;omega);have p5:=zdI w0 gm k m iz h6;have hJl:=Ms.zeA hf iz;rw[hJ]at p4 hJl;rw[hb]at p5;repeat' (first|(refine hK _ ?_;clear hK K)|(show WS _ _ _ (.seq (.seq (.region 17 _ _) _) _) _ _;refine ab ?_;intro K hK;refine nC hK (λτ=>τ=⟨[(10,aZ J),(11,.bool b),(8,.bool true),(9,v9),(7,.int .i64 iz),(1,ptr gr 0),(0,ptr gm 0)],[],zaj gm k m*(rmI gr kr m*(rows 5 1 bU v9 J*G))⟩) (zge.h ?_) ?_)|(show WS _ _ _ (.seq (.region 13 _ _) _) _ _;refine cV Dy ?_)|refine ab λK hK=> ?_|refine ax ?_|(refine aF ?_ ?_<;>intro hc<;>try exact aG)|refine zw8 ?_|refine cZ p1 λx1=> ?_|refine cZ p2 λx2=> ?_|refine cZ (p3 x1 x2) λu3=> ?_|refine cZ p4 λv9=> ?_)
  ·refine⟨?_⟩;clear p1 p2 p3 p4 p5 Dy;refine zcO (g:=gr) (k:=kr) (m:=m) iI λva ve yl=> ?_;have Rg:(kr.hs.map (·.1)).length=m.Zs.length:=by rw[Hu];exact yl
   rcases m.zbm iz with ⟨l5,hi⟩|⟨j,s,rfl,hs,l5⟩
   ·rw[l5]at hJ hb;simp only[uag,Ju,ubJ,sH]at hJ hb;subst hJ;subst hb;simp only[r6];by_cases hz:iz<0
    ·have Kf:¬iz>=0:=by omega
     repeat' (first|(refine hK _ ?_;clear hK K)|intro K hK|intro hc|refine xyZ ?_|refine aF ?_ ?_|refine zw4 ?_)
     refine⟨_,rfl,cG,rfl,?_⟩;rw[aM (zaj gm k m) (rmI gr kr m)];refine zbg va ve ?_;simp only[r6];exact ah
    ·have Kf:iz>=0:=by omega
     have Zk:¬iz<((kr.hs.map (·.1)).length:Int):=by omega
     repeat' (first|(refine hK _ ?_;clear hK K)|intro K hK|intro hc|refine xyZ ?_|refine aF ?_ ?_|refine zw2 ?_)
     refine⟨_,rfl,cG,rfl,?_⟩;rw[aM (zaj gm k m) (rmI gr kr m)];refine zbg va ve ?_;simp only[r6];exact ah
   ·have hj:=(az.1 hs).1;obtain⟨x,JQ⟩:∃x,kr.hs[j]? =some x:=⟨_,aX (by omega)⟩
    have hxp:(kr.hs.map (·.1))[j]? =some x.1:=by rw[zA,JQ];rfl
    obtain⟨R,e1,e2⟩:=zay yl JQ hs;refine zdX e1 λgn=> ?_;rw[l5]at hJ hb;simp only[EL,CV,G6]at hJ hb;subst hJ;have Kf:(j:Int)>=0:=by omega
    have Zk:(j:Int)<((kr.hs.map (·.1)).length:Int):=by omega
    unfold y9;simp only[r6,zak];cases ht:s.node with
    |none=>
     rw[ht]at hb;simp only[sH]at hb;subst hb;simp only[jo,zat];repeat' (first|(refine hK _ ?_;clear hK K)|intro K hK|intro hc|refine xyZ ?_|refine aF ?_ ?_|refine zw8 ?_|refine zw1 ?_)
     refine⟨_,rfl,cG,rfl,?_⟩;rw[aM (zaj gm k m) (rmI gr kr m)];refine zcs (va:=va) (ve:=ve) gn e1 ?_;unfold y9;simp only[r6,zak,ht,jo,zat];exact ah
    |some t=>
     rw[ht]at hb;simp only[uz]at hb;subst hb;simp only[jo,zat];repeat' (first|(refine hK _ ?_;clear hK K)|intro K hK|intro hc|refine xyZ ?_|refine aF ?_ ?_|refine zw8 ?_|refine zw1 ?_)
     refine⟨_,rfl,cG,rfl,?_⟩;rw[aM (zaj gm k m) (rmI gr kr m)];refine zcs (va:=va) (ve:=ve) gn e1 ?_;unfold y9;simp only[r6,zak,ht,jo,zat];exact ah
  ·rintro τ rfl;clear p1 p2 p3 p4 Dy;repeat' (first|(refine hK _ ?_;clear hK K)|intro K hK|intro hc|refine xyZ ?_|refine aF ?_ ?_|((refine' LQ ?zh rfl ?_);case zh=>intro F';first|exact du rfl rfl iI (by first|assumption|omega|decide|rfl)|exact kY rfl iI rfl iI iI iI)|refine cZ p5 λu5=> ?_)
   refine aV (λPd τ=>∃(t:Nat) (bs:cP),t+Pd=J.length/\bs.length=J.length/\τ=⟨[(13,.int .i64 (t:Int)),(9,v9),(7,.int .i64 iz),(1,ptr gr 0),(0,ptr gm 0)],[],zaj gm k m*(rmI gr kr m*(rows 5 1 bU v9 bs*G))⟩) ?_ ?_
   ·exact⟨J.length,_,⟨0,J,by omega,rfl,rfl⟩,cG,rfl,ah⟩
   clear p5 hJ hb;rintro Pd τ ⟨t,bs,gK,Ll,rfl⟩;rcases jP t J.length with h3|h3
   ·have h1:(t:Int)<(bs.length:Int):=by omega
    have h2:t<bs.length:=by omega
    repeat' (first|(refine hK _ ?_;clear hK K)|intro K hK|intro hc|refine xyZ ?_|refine aF ?_ ?_|refine zw8 ?_|refine zfV λg=> ?_)
    exact⟨Pd - 1,_,by omega,⟨t+1,bs.set t 0,by omega,by rw[TY];exact Ll,rfl⟩,cG,rfl,ah⟩
   have h1:¬(t:Int)<(bs.length:Int):=by omega
   repeat' (first|(refine hK _ ?_;clear hK K)|intro K hK|intro hc|refine xyZ ?_|refine aF ?_ ?_|refine zw4 ?_)
   exact⟨kk - 1,_,by omega,⟨iz+1,by omega,by omega,rfl⟩,cG,rfl,ah⟩
 ·repeat' (first|(refine hK _ ?_;clear hK K)|intro K hK|intro hc|refine xyZ ?_|refine aF ?_ ?_|refine zw4 ?_)
  refine aC (.inl rfl) rfl rfl ⟨(),rfl,?_⟩;rw[aM (zaj gm k m) (rmI gr kr m)];refine zbg va ve ?_;simp only[r6];exact ah
instance zfC:Zero ucC 124 (.agg #[.slice none 0 0,.slice none 0 0,.slice none 0 0,.int .u64 0,.slice none 0 0]) [.slice none 0 0,.slice none 0 0,.slice none 0 0,.int .u64 0,.slice none 0 0]:=⟨by kernel_rfl,rfl⟩
instance zf6:Zero ucC 4 (.bool false) [.bool false]:=⟨by kernel_rfl,rfl⟩
def rx0 (b:Nat):RX:=(b,0,0)
def ze5 (gm N q:Nat) (l:List UInt32) (vs vh:Value) (bs:List Nat) (hv:List SO):af:=
 aK gm 124 [vs,vh,.slice none 0 0,u64 0,.slice none 0 0]*(rows 128 1 Z4 vs bs*(rows 131 1 soC vh hv*(qY (zbb N λ_=>false) hv (List.range q)*qY zaJ (bs.map rx0) ((l.take q).map ZT))))
theorem zdx (N i):za4 N (λ_=>false) i=List.replicate N false:=by
 apply zD;intro t;by_cases ht:t<N
 ·rw[zaX ht];simp[List.getElem?_replicate,ht]
 ·rw[EJ (by rw[zas];omega),EJ (by simp;omega)]
theorem zeF (bs:List Nat):(bs.map rx0).map (·.1)=bs:=by
 induction bs with
 |nil=>rfl
 |cons b r ih=>simp only[Hh,ih];rfl
theorem zdQ (l:List UInt32) (hl:l.length=0\/6<l.length) (v X) [hX:eX w0 X v UInt32 1 cA l]:
 Spec ucC w0 27 [v] X (λ_:Unit=> .tuple #[.pointer none,.int .i64 5]) (λ_=>X):=by
 refine eZ Tryz.func27 Tryz.ntmps27 λG=> ?_
 simp only[aN]
 rcases hl with hl|hl
 all_goals
  repeat' (first|intro hc|refine xyZ ?_|refine aF ?_ ?_)
  exact de (.inl rfl) rfl rfl rfl ⟨(),rfl,ah⟩
theorem zdG (l:List UInt32) (hl:l.length=0\/6<l.length) (v X) [hX:eX w0 X v UInt32 1 cA l]:
 Spec ucC w0 26 [v] X (λ_:Unit=> .tuple #[.pointer none,.int .i64 5]) (λ_=>X):=by
 refine eZ Tryz.func26 Tryz.ntmps26 λG=> ?_
 simp only[aN]
 rcases hl with hl|hl
 all_goals
  repeat' (first|intro hc|refine xyZ ?_|refine aF ?_ ?_)
  exact de (.inl rfl) rfl rfl rfl ⟨(),rfl,ah⟩
theorem zdP (l:List UInt32) (hl:0<l.length/\l.length<=6) (j) (hj:j<=l.length) (h0:∀a∈l.take j,a≠0) (hn:(l.take j).Nodup) (zeX:∀a,l[j]? =some a->a=0\/a∈l.take j) (v X) [hX:eX w0 X v UInt32 1 cA l]:
 Spec ucC w0 27 [v] X (λx:{x:Nat×RH // ∀y∈x.2.hs,y.2.1=0/\y.2.2=0}=>if j=l.length then .tuple #[ptr x.1.1 0,.int .i64 0]else .tuple #[.pointer none,.int .i64 5]) (λx=>if j=l.length then rmI x.1.1 x.1.2 (Ms.new l)*X else X):=by
 refine eZ Tryz.func27 Tryz.ntmps27 λG=> ?_
 simp only[aN]
 obtain⟨N,hN⟩:∃N,N=l.length:=⟨_,rfl⟩
 repeat' (first|refine ab λK hK=> ?_|refine ax ?_|(refine aF ?_ ?_<;>intro hc<;>try exact aG)|(refine ai (rj rfl) rfl ?_;intro gm))
 refine aV (λkk τ=>∃(q:Nat) (vs vh:Value) (bs:List Nat) (hv:List SO),q+kk=l.length/\q<=j/\bs.length=q/\hv.length=q/\τ=⟨[(5,.int .i64 (q:Int)),(4,ptr gm 0),(0,v)],[],ze5 gm N q l vs vh bs hv*(X*G)⟩) ?_ ?_
 ·refine⟨l.length,_,⟨0,.slice none 0 0,.slice none 0 0,[],[],by omega,by omega,rfl,rfl,rfl⟩,cG,rfl,?_⟩
  unfold ze5
  simp only[ad]
  show aq _ (aK gm 124 [.slice none 0 0,.slice none 0 0,.slice none 0 0,u64 0,.slice none 0 0]*(rows 128 1 Z4 (.slice none 0 0) []*(rows 131 1 soC (.slice none 0 0) []*(emp*(emp*(X*G))))))
  simp only[aB]
  refine(aq.nil _ 128 1 Z4 none).trans ?_
  refine(aq.nil _ 131 1 soC none).trans ?_
  exact ah
 rintro kk τ ⟨q,vs,vh,bs,hv,hqk,hqj,hbq,hvq,rfl⟩
 unfold ze5
 simp only[ad]
 rcases jP q l.length with bW|kQ
 ·obtain⟨a,ha⟩:∃a,l[q]? =some a:=⟨_,aX bW⟩
  have Wc:(q:Int)<(l.length:Int):=by omega
  have zel:q<j->a≠0/\a∉l.take q:=λzem=>by
   have xk:a∈l.take j:=jq (i:=q) (by rw[G3,jF zem,ha]);refine⟨h0 a xk,λh=> ?_⟩;have hd:a∈(l.take j).drop q:=jq (i:=0) (by rw[Lf,uay,G3,jF zem,ha]);have AL:(l.take q++(l.take j).drop q).Nodup:=by
    have e:l.take q=(l.take j).take q:=by rw[ubd,ubs hqj]
    rw[e,Jt];exact hn
   exact(Yw.1 AL).2.2 a h a hd rfl
  repeat' (first|refine ab λK hK=> ?_|refine ax ?_|(refine aF ?_ ?_<;>intro hc<;>try exact aG))
  refine aV (λxx τ=>∃(p:Nat),p+xx=q/\(∀i,i<p->l[i]?≠some a)/\τ=⟨[(6,.int .i64 (p:Int)),(5,.int .i64 (q:Int)),(4,ptr gm 0),(0,v)],[],aK gm 124 [vs,vh,.slice none 0 0,u64 0,.slice none 0 0]*(rows 128 1 Z4 vs bs*(rows 131 1 soC vh hv*(qY (zbb N λ_=>false) hv (List.range q)*(qY zaJ (bs.map rx0) ((l.take q).map ZT)*(X*G)))))⟩) ?_ ?_
  ·exact⟨q,_,⟨0,by omega,λi hi=>by omega,rfl⟩,cG,rfl,ah⟩
  rintro xx τ ⟨p,SY,mi,rfl⟩
  rcases jP p q with hp|hp
  ·have Mm:(p:Int)<(q:Int):=by omega
   have Mn:p<l.length:=by omega
   obtain⟨b,hb⟩:∃b,l[p]? =some b:=⟨_,aX Mn⟩
   by_cases hba:b=a
   ·have Ng:¬j=l.length:=λe=>(zel (by omega)).2 (jq (i:=p) (by rw[G3,jF hp,hb,hba]))
    repeat' (first|refine ag (id:=10) (.range 9) ?_|refine ab λK hK=> ?_|refine ax ?_|(refine aF ?_ ?_<;>intro hc<;>try exact aG))
    exact de (.inl rfl) rfl rfl rfl ⟨⟨(gm,⟨vs,[],vh,hv⟩),λy hy=>by cases hy⟩,by rw[eQ Ng],by rw[eQ Ng];exact ah⟩
   ·repeat' (first|refine ag (id:=10) (.range 9) ?_|refine ab λK hK=> ?_|refine ax ?_|(refine aF ?_ ?_<;>intro hc<;>try exact aG))
    refine⟨xx - 1,_,by omega,⟨p+1,by omega,λi hi=> ?_,rfl⟩,cG,rfl,ah⟩
    by_cases e:i=p
    ·subst e;rw[hb];exact λh=>hba (PL h)
    ·exact mi i (by omega)
  have Mm:¬(p:Int)<(q:Int):=by omega
  have Es:a∉l.take q:=λh=>by
   obtain⟨i,hi⟩:=JC h;rw[G3]at hi;split at hi
   ·exact mi i (by omega) hi
   ·cases hi
  by_cases ha0:a=0
  ·have Ng:¬j=l.length:=λe=>(zel (by omega)).1 ha0
   subst ha0
   have p4:=E9 w0 [] 0
   simp only[xQ]at p4
   repeat' (first|refine ab λK hK=> ?_|refine ax ?_|(refine aF ?_ ?_<;>intro hc<;>try exact aG)|refine zf0 ?_|refine bT λg=> ?_|refine bQ λg=> ?_|refine cZ p4 λu4=> ?_)
   exact de (.inl rfl) rfl rfl rfl ⟨⟨(gm,⟨vs,[],vh,hv⟩),λy hy=>by cases hy⟩,by rw[eQ Ng],by rw[eQ Ng];exact ah⟩
  ·have zfW:q+1<=j:=by
    rcases jP q j with h|h
    ·exact h
    ·obtain rfl:q=j:=by omega
     rcases zeX a ha with h|h
     ·exact absurd h ha0
     ·exact absurd h Es
   have p4:=(Ic w0 0 0 a ha0 [] (by simp) 0).zdi (λy:Nat×SO×SO×SO=>(y.1,yo y.2)) (λx=>(x.1,lZ x.2)) (λx w F hx=>by rw[ad,aM]at hx;show(x.1,yo (lZ x.2))=x;rw[eR hx])
   have Uw:ZT a=⟨a,some (Nd.new a [] 0),(Nd.gZ a [] 0).ay,0,false⟩:=rfl
   have gK:(l.take (q+1)).map ZT=(l.take q).map ZT++[ZT a]:=by
    rw[AP,ha];simp
   have zfL:(bs.map rx0).length=((l.take q).map ZT).length:=by simp[hbq];omega
   have zfY:hv.length=(List.range q).length:=by rw[List.length_range];exact hvq
   have zfN:bs.length<=6:=by omega
   have zgB:hv.length<=6:=by omega
   clear mi zel
   generalize Nd.new a [] 0=t2 at*
   generalize Nd.gZ a [] 0=o2 at*
   simp only[fp,yo,cT]at p4
   repeat' (first|refine ab λK hK=> ?_|refine ax ?_|(refine aF ?_ ?_<;>intro hc<;>try exact aG)|((first|refine' LQ ?zh rfl ?_|refine' bP rfl rfl rfl ?zh ?_|refine' bk rfl rfl ?zh ?_);case zh=>intro F';first|exact bH rfl rfl iI (by first|assumption|omega|decide|rfl)|exact du rfl rfl iI (by first|assumption|omega|decide|rfl))|((first|refine' ai ?zh rfl ?_|refine' aD ?zh rfl rfl rfl ?_);(case zh=>exact ph iI);intro g)|refine bQ λg=> ?_|refine cZ p4 λx4=> ?_|refine ae (id:=15) (.range 19) 15 [4,7,8,11] ?_|refine ae (id:=16) (.range 13) 9 [4,6] ?_|(refine aD (rj rfl) rfl rfl rfl ?_;intro bx)|(refine aD (au Z4 [bx] iI iI iI rfl rfl rfl rfl rfl iI rfl rfl rfl) rfl rfl rfl ?_;intro vx)|(refine aD (aR rfl rfl iI iI rfl iI iI zeq (by first|omega|(simp[al]<;>omega)) rfl) rfl rfl rfl ?_;intro va)|(refine aD (cn.form l.length (by simp) (zeJ zbU false rfl rfl iI iI iI rfl rfl (by omega) rfl)) rfl rfl rfl ?_;intro vb)|(refine aD (au soC [(vb.1,l.length,vb.2)] iI iI iI rfl rfl rfl rfl rfl iI rfl rfl rfl) rfl rfl rfl ?_;intro vy)|(refine aD (aR rfl rfl iI iI rfl iI iI zfB (by first|omega|(simp[al]<;>omega)) rfl) rfl rfl rfl ?_;intro vc))
   refine⟨kk - 1,_,by omega,⟨q+1,va,vc,bs++[bx],hv++[(vb.1,l.length,vb.2)],by omega,zfW,by simp[hbq],by simp[hvq],rfl⟩,cG,rfl,?_⟩
   have hR:zbb N (λ_=>false) (vb.1,l.length,vb.2) q=rows 4 1 zbU (.slice vb.1 l.length vb.2) (List.replicate l.length false):=by unfold zbb;rw[zdx,hN]
   rw[gK,ubU,EZ,Hh,Xp,um _ _ zfL,um _ _ zfY,hR]
   simp only[ad]
   refine aq.trans (F:=y9 (rx0 bx) x4.1 (ZT a)*(aK gm 124 [va,vc,.slice none 0 0,u64 0,.slice none 0 0]*(rows 128 1 Z4 va (bs++[bx])*(rows 131 1 soC vc (hv++[(vb.1,l.length,vb.2)])*(rows 4 1 zbU (.slice vb.1 l.length vb.2) (List.replicate l.length false)*(qY (zbb N λ_=>false) hv (List.range q)*(qY zaJ (bs.map rx0) ((l.take q).map ZT)*(X*G)))))))) ?_ ?_
   ·rw[Uw]
    simp only[y9,zak,rx0,jo,zat,ad]
    exact ah
   ·refine aq.trans (F:=zaJ (rx0 bx) (ZT a)*(aK gm 124 [va,vc,.slice none 0 0,u64 0,.slice none 0 0]*(rows 128 1 Z4 va (bs++[bx])*(rows 131 1 soC vc (hv++[(vb.1,l.length,vb.2)])*(rows 4 1 zbU (.slice vb.1 l.length vb.2) (List.replicate l.length false)*(qY (zbb N λ_=>false) hv (List.range q)*(qY zaJ (bs.map rx0) ((l.take q).map ZT)*(X*G)))))))) (aq.mX (p:=λgn=>y9 (rx0 bx) gn (ZT a)) x4.1 (aq.refl _)) ?_
    exact ah
 ·obtain rfl:q=j:=by omega
  obtain rfl:q=l.length:=by omega
  have Wc:¬(l.length:Int)<(l.length:Int):=by omega
  repeat' (first|refine ab λK hK=> ?_|refine ax ?_|(refine aF ?_ ?_<;>intro hc<;>try exact aG))
  refine de (.inl rfl) rfl rfl rfl ⟨⟨(gm,⟨vs,bs.map rx0,vh,hv⟩),λy hy=>by obtain⟨b,_,e⟩:=HC.1 hy;subst e;exact⟨rfl,rfl⟩⟩,by rw[jF rfl],?_⟩
  rw[jF rfl,ad (rmI _ _ _)]
  refine zbg (.slice none 0 0) (.slice none 0 0) ?_
  have e1:r7 hv (Ms.new l).Zs.length (Ms.new l).Zu=qY (zbb N λ_=>false) hv (List.range l.length):=by
   have Lw:(Ms.new l).Zs.length=l.length:=by show(l.map ZT).length=_;simp
   unfold r7;rw[Lw,qQ hvq,aB,hN];rfl
  have e2:zam (bs.map rx0) (Ms.new l).Zs=qY zaJ (bs.map rx0) (l.map ZT):=zbp (by show _=(l.map ZT).length;simp[hbq])
  simp only[zeF,e1,e2,PE]
  show aq _ (aK gm 124 [vs,vh,.slice none 0 0,u64 0,.slice none 0 0]*(rows 128 1 Z4 vs bs*(rows 131 1 soC vh hv*(qY (zbb N λ_=>false) hv (List.range l.length)*(qY zaJ (bs.map rx0) (l.map ZT)*(rows 114 3 flC (.slice none 0 0) []*(X*G)))))))
  refine(aq.nil _ 114 3 flC none).trans ?_
  exact ah
end
theorem Ms.zcY.of {m m':Ms} (h:m.zcY) (hs:m'.Zs=m.Zs) (hn:m.now.toNat<=m'.now.toNat):m'.zcY:=λi s t h1 h2=>WA (h i s t (by rw[<-hs];exact h1) h2) hn
theorem Ms.zcY.mod {m:Ms} {i f} (h:m.zcY) (hf:∀s t,m.Zs[i]? =some s->(f s).node=some t->s.node=some t\/t.now.toNat<=m.now.toNat):(m.mod i f).zcY:=λj s t h1 h2=>by
 have xc:(m.Zs.modify i f)[j]? =some s:=h1;rw[uab]at xc;cases hq:m.Zs[j]? with
 |none=>rw[hq]at xc;simp at xc
 |some q=>
  rw[hq]at xc;by_cases e:i=j
  ·subst e;simp at xc;subst xc;rcases hf q t hq h2 with h3|h3
   ·exact h i q t hq h3
   ·exact h3
  ·simp[e]at xc;subst xc;exact h j q t hq h2
theorem Ms.zbT (i:Nat) (b:cP) (m:Ms):∀k,(Ms.Zt i b k m).Zs=m.Zs/\(Ms.Zt i b k m).now=m.now
 |0=>⟨rfl,rfl⟩
 |k+1=>by
  unfold Ms.Zt;split
  ·exact Ms.zbT i b m k
  ·exact Ms.zbT i b m k
theorem Ms.zcY.ZA {sub i} (ow:∀m o,m.zcY->(sub m o).zcY) {m:Ms} (o) (h:m.zcY):(Ms.ZA sub i m o).zcY:=by
 unfold Ms.ZA;split
 ·exact h
 ·split
  ·exact h
  ·rename_i s hs;split
   ·exact(h.mod (i:=i) (f:=(·.ZH o)) λs t _ ht=>by
     unfold Zr.ZH Zr.stop at ht
     cases ht).of rfl (uL _)
   ·have h1:((m.mod i (·.write o)).event ⟨i,0,o⟩).zcY:=(h.mod (i:=i) (f:=(·.write o)) λs t _ ht=> .inl ht).of rfl (uL _);generalize (m.mod i (·.write o)).event ⟨i,0,o⟩=m1 at h1;clear hs h;induction o.aJ generalizing m1 with
    |nil=>exact h1
    |cons f r ih=>
     refine ih _ ?_;unfold Ms.ZB;split
     ·exact h1.of (Ms.zbT i f.2 m1 _).1 (by rw[(Ms.zbT i f.2 m1 _).2];exact uL _)
     ·split
      ·exact h1.of rfl (uL _)
      ·split
       ·rename_i t _;refine ow _ _ (h1.mod λs u _ hu=> .inr ?_);have e:some (t.l7 m1.now f.1)=some u:=hu;cases e;rw[Nd.Jn];exact uL _
       ·exact h1
theorem Ms.zcY.emit {i} {m:Ms} (o) (h:m.zcY):(Ms.emit i m o).zcY:=Ms.zcY.ZA (λm o h=>Ms.zcY.ZA (λm o h=>h) o h) o h
theorem Ms.zcY.run {i} {m:Ms} {t:Nd} (o) (h:m.zcY) (ht:t.now=m.now):(Ms.emit i (m.mod i (·.run t)) o).zcY:=Ms.zcY.emit o (h.mod λs u _ hu=>by
 have e:some t=some u:=hu;cases e;exact .inr (by rw[ht];exact uL _))
theorem Ms.zcY.frame {m:Ms} {c:Nat} (hf:m.zaQ c) (h:m.zcY) (o:Z3) (k:Nat):(m.frame o k).zcY:=by
 unfold Ms.frame;cases zp:m.Zx[k]? with
 |none=>exact h
 |some f=>
  have he:Ms.zcY {m with Zx:=m.Zx.eraseIdx k}:=h.of rfl (uL _);simp only;split
  ·cases hs:m.Zs[f.dst]? with
   |none=>exact he
   |some s=>
    simp only[G6];cases ht:s.node with
    |none=>exact he
    |some t=>exact he.run _ (Nd.C4 ((hf.sound _ s hs).node t ht).1 _ _ _)
  ·split
   ·exact he
   ·split
    ·exact h.of rfl (uL _)
    ·split
     ·exact h.of rfl (uL _)
     ·exact h
theorem Ms.zcY.ZF {m:Ms} {c:Nat} (hf:m.zaQ c) (h:m.zcY) (hc:c<=8500) (hn:m.now.toNat<=4611686018427387904):∀q,q<=m.Zs.length->(Ms.ZF q m).zcY
 |0,_=>h
 |q+1,hq=>by
  have ih:=Ms.zcY.ZF hf h hc hn q (by omega);have hT:=Ms.zbQ hf hc hn q (by omega);have hl:=hT.RJ q (uL _);obtain⟨s,hs⟩:∃s,m.Zs[q]? =some s:=⟨_,aX (by omega)⟩
  rw[hs]at hl;unfold Ms.ZF;rw[hl];simp only[G6];cases ht:s.node with
  |none=>exact ih
  |some t=>exact ih.run _ (Nd.Iq ((hf.sound _ s hs).node t ht).1 hc (by rw[hT.now];exact hn))
theorem Ms.zcY.node {m:Ms} {c:Nat} (hf:m.zaQ c) (h:m.zcY) {o:Z3} (hk:o.kind=1\/o.kind=2\/o.kind=8\/o.kind=9\/o.kind=10\/o.kind=11):(m.ZU o).zcY:=by
 have hev:∀e,(m.event e).zcY:=λe=>h.of rfl (uL _);cases hb:m.bars o with
 |true=>rw[Ms.zbv hb];exact hev _
 |false=>
  obtain⟨i,s,e1,hs,hw,hj⟩:=Ms.zap hb;have l5:m.at_ o.a=some s:=by rw[e1,m.zaw];exact hs
  have Hq:=hf.sound i s hs;rcases hk with hk|hk|hk|hk|hk|hk
  ·rw[Ms.zb9 hb hk];split
   ·exact h.of rfl (uL _)
   ·exact h
  ·obtain⟨j,s2,e2,fP⟩:=hj (.inr (.inl hk));cases ht:s.node with
   |none=>rw[ht,hk]at hw;exact zzA (hw (by decide))
   |some t=>
    rw[Ms.zca hb hk l5 ht (by rw[e2,m.zaw];exact fP),e1,D3];split
    ·exact h.run _ (Nd.Ij t _ _ _)
    ·exact hev _
  ·obtain⟨j,s2,e2,fP⟩:=hj (.inr (.inr hk));cases ht:s.node with
   |none=>rw[ht,hk]at hw;exact zzA (hw (by decide))
   |some t=>
    rw[Ms.zcy hb hk l5 ht (by rw[e2,m.zaw];exact fP),e1,D3];exact h.run _ (Nd.C4 (Hq.node t ht).1 _ _ _)
  ·rw[Ms.zcb hb hk];exact h.mod λs t _ ht=>by cases ht
  ·rw[Ms.zcx hb hk];exact h.mod λs t _ ht=> .inl ht
  ·rw[Ms.zb8 hb hk l5,e1,D3];exact Ms.zcY.emit _ (h.mod λs t _ ht=>by
    have e:some (Nd.new s.addr s.ay m.now)=some t:=ht
    cases e
    exact .inr (by rw[Nd.Ge];exact uau _))
theorem Ms.zeD {m:Ms} (n:Int) (h1:1<=n/\n<=60000) (hn:m.now.toNat+60000<=4611686018427387904):m.now.toNat<=(m.now+UInt64.ofNat n.toNat).toNat/\(m.now+UInt64.ofNat n.toNat).toNat<=4611686018427387904:=by
 have h2:(UInt64.ofNat n.toNat).toNat=n.toNat:=by
  rw[uav];exact YJ (by omega)
 have h3:(m.now+UInt64.ofNat n.toNat).toNat=m.now.toNat+n.toNat:=by
  rw[uaO,h2];exact YJ (by omega)
 omega
theorem Ms.zcY.do_ {m:Ms} {c:Nat} (hf:m.zaQ c) (h:m.zcY) (hc:c<=8500) (hn:m.now.toNat+60000<=4611686018427387904) (o:Z3):(m.do_ o).zcY:=by
 have h0:Ms.zcY {m with mU:=[]}:=h.of rfl (uL _);by_cases hF:o.kind=4\/o.kind=5\/o.kind=6\/o.kind=7
 ·rw[Ms.zc3 hF];split
  ·exact Ms.zcY.frame hf.clear h0 _ _
  ·exact h0
 ·by_cases hT:o.kind=3
  ·rw[Ms.zd0 hT];split
   ·rename_i hr;have h2:=Ms.zeD (m:=m) o.n hr hn;exact Ms.zcY.ZF (m:={m with now:=m.now+UInt64.ofNat o.n.toNat,mU:=[]}) (c:=c) ⟨hf.short,hf.sound,⟨hf.Zx.QG,hf.Zx.each⟩⟩ (h.of rfl h2.1) hc h2.2 _ (uL _)
   ·exact h0
  ·by_cases hN:o.kind=1\/o.kind=2\/o.kind=8\/o.kind=9\/o.kind=10\/o.kind=11
   ·rw[Ms.zdY hN];exact Ms.zcY.node hf.clear h0 hN
   ·rw[Ms.zdZ hF hT hN];exact h0
theorem Ms.zeZ (l):(Ms.new l).zcY:=λi s t h1 h2=>by
 have xc:(l.map ZT)[i]? =some s:=h1;rw[zA]at xc;cases hq:l[i]? with
 |none=>rw[hq]at xc;cases xc
 |some a=>
  rw[hq]at xc;cases xc;have e:some (Nd.new a [] 0)=some t:=h2;cases e;rw[Nd.Ge];exact uau _
def Ms.Adr (m:Ms):Prop:=∀s∈m.Zs,s.addr≠0
theorem Ms.Adr.of {m m':Ms} (h:m.Adr) (e:m'.Zs.map (·.addr)=m.Zs.map (·.addr)):m'.Adr:=λs hs=>by
 have h1:s.addr∈m.Zs.map (·.addr):=by rw[<-e];exact HC.2 ⟨s,hs,rfl⟩
 obtain⟨q,hq,h2⟩:=HC.1 h1;rw[<-h2];exact h q hq
theorem Ms.zfh {l} (h:∀a∈l,a≠0):(Ms.new l).Adr:=λs hs=>by
 obtain⟨a,ha,e⟩:=HC.1 hs;rw[<-e];exact h a ha
end Go.Proofs.YtapoehkdnglahabGreat

/- A part. -/
import Derived.Test.YtapoehkdnglahabGreatMg
import Derived.Test.YtapoehkdnglahabGreatMk
import Derived.Test.YtapoehkdnglahabGreatMl
import Derived.Test.YtapoehkdnglahabGreatMm
import Derived.Conc.MuLone
set_option maxHeartbeats 8000000
set_option maxRecDepth 100000
set_option linter.all false
namespace Go.Proofs.YtapoehkdnglahabGreat
section
open Go.RowKit
variable (w0:World)
theorem FX {P:Program} {w0:World} {f:FuncId} {args:List Value} {g:Nat} {self:UInt32} {ls:List Ln} {α:Type} {res:α->Value} {A:α->af} {IF:α->List Ln} (hl:∀x,(IF x).length=ls.length)
 (h:∀r bs,bs.length=ls.length->Spec P w0 f args (dO g r self bs ls) res (λx=>A x*dO g r self bs (IF x))):Spec P w0 f args (dR g self ls) res (λx=>A x*dR g self (IF x)):=λG w hs=>by
 obtain⟨x,fP⟩:=Sat.ex (P:=λx:Nat×List (Nat×Nat)=>pure' (x.2.length=ls.length)*dO g x.1 self x.2 ls) hs
 obtain⟨hlen,qI⟩:=(fP.cast (ad _ _ _)).pure
 refine(h x.1 x.2 hlen G w qI).mono ?_
 rintro e w' ⟨y,he,eI⟩
 refine⟨y,he,?_⟩
 have h1:Sat w0 w' (dO g x.1 self x.2 (IF y)*(A y*G)):=eI.cast (by ac_rfl)
 have h2:=(aq.dR (r:=x.1) (bs:=x.2) (hlen.trans (hl y).symm) (aq.refl _)).sat h1
 exact h2.cast (by ac_rfl)
theorem zr {P w0 f args g self} {ls:List Ln} {α res} {IF:α->List Ln} (hl:∀x,(IF x).length=ls.length) (h:∀r bs,bs.length=ls.length->Spec P w0 f args (dO g r self bs ls) res (λx=>dO g r self bs (IF x))):Spec P w0 f args (dR g self ls) res (λx=>dR g self (IF x)):=by
 have:=FX (A:=λ_=>emp) hl (λr bs hlen=>by simp only[aB];exact h r bs hlen);simpa only[aB]using this
theorem mm (ls:List Ln) (d f):(lP ls d f).length=ls.length:=by unfold lP;split<;>simp
structure aW (ls:List Ln):Prop where
 nodup:(aO ls).Nodup
 short:ls.length<=8
 aH:∀l∈ls,0<=l.aH/\l.aH<=1000
 before:∀l∈ls,l.before.length<=4
theorem B4 (g self ls) (ok:aW ls) (now):Spec ucC w0 115 [ptr g 0,u64 now] (dR g self ls) (λ_:Unit=> .tuple #[]) (λ_=>dR g self (mE now ls)):=
 zr (λ_=>by simp[mE]) λr bs hlen=>Az w0 g r self bs ls hlen ok.nodup now
theorem mo (g self ls d):Spec ucC w0 67 [ptr g 0,u32 d] (dR g self ls) (λ_:Unit=> .tuple #[u32 (eJ ls d),.bool (dG ls d).isSome]) (λ_=>dR g self ls):=
 zr (λ_=>rfl) λr bs hlen=>zcU w0 g r self bs ls hlen d
theorem GY (g self ls d):Spec ucC w0 180 [ptr g 0,u32 d] (dR g self ls) (λ_:Unit=>u32 (eJ (ia ls d) d)) (λ_=>dR g self (ia ls d)):=
 zr (λ_=>mm _ _ _) λr bs hlen=>DW w0 g r self bs ls hlen d
theorem pe (g self ls d ex):Spec ucC w0 173 [ptr g 0,u32 d,u64 ex] (dR g self ls) (λ_:Unit=> .tuple #[]) (λ_=>dR g self (iY ls d ex)):=
 zr (λ_=>mm _ _ _) λr bs hlen=>It w0 g r self bs ls hlen d ex
theorem mf (g self ls d nb):Spec ucC w0 176 [ptr g 0,u32 d,u32 nb] (dR g self ls) (λ_:Unit=> .tuple #[]) (λ_=>dR g self (gF ls d nb)):=
 zr (λ_=>mm _ _ _) λr bs hlen=>Al w0 g r self bs ls hlen d nb
theorem Hz (g self ls src d s):Spec ucC w0 178 [ptr g 0,u32 src,.agg #[u32 d,u32 s]] (dR g self ls) (λ_:Unit=> .tuple #[u32 (if fR ls src d then eJ (iS ls src d s) d else 0),.bool (fR ls src d),.bool (fR ls src d&&decide (0<((dG ls d).getD Ln.zero).before.length))]) (λ_=>dR g self (iS ls src d s)):=
 zr (λ_=>mm _ _ _) λr bs hlen=>EG w0 g r self bs ls hlen src d s
theorem find_spec (g self ls) (ok:aW ls) (d now):Spec ucC w0 175 [ptr g 0,u32 d,u64 now] (dR g self ls) (λp:Option Addr×Nat=>fX (bR ls d now) p) (λp=>fW (bR ls d now) p*dR g self ls):=
 FX (λ_=>rfl) λr bs hlen=>Ec w0 g r self bs ls hlen (λl hl=>by have:=ok.before l hl;omega) d now
theorem BT (g self ls) (ok:aW ls) (nb):Spec ucC w0 194 [ptr g 0,u32 nb] (dR g self ls) (λv:Value=>v) (λv=>rows 180 2 bB v (jh nb (aQ (aO ls)) ls)*dR g self (nH nb ls)):=
 FX (λ_=>by simp[nH]) λr bs hlen=>An w0 g r self bs ls hlen ok.nodup (by have:=ok.short;omega) nb
theorem zx (g self ls) (ok:aW ls):Spec ucC w0 75 [ptr g 0] (dR g self ls) (λx:Value×List da=>x.1) (λx=>(pure' (x.2.map (·.1)=cE ls)*(rows 53 7 bJ x.1 x.2*cQ x.2))*dR g self ls):=
 FX (λ_=>rfl) λr bs hlen=>by
  have:=EE w0 g r self bs ls hlen ok.nodup (by have:=ok.short;omega) (λl hl=>by have:=ok.before l hl;omega);simpa only[ad]using this
theorem uP (g self ls) (ok:aW ls) (x:Ln) (hx:x.before=[]) (UQ:x.valid=false) (S7:0<=x.aH/\x.aH<=1000):
 Spec ucC w0 171 [ptr g 0,.agg (bM x (.slice none 0 0)).toArray] (dR g self ls) (λ_:Unit=> .int .i64 (dI self ls x).1) (λ_=>dR g self (dI self ls x).2):=by
 have:=Spec.dR (X:=emp) (P:=ucC) (w0:=w0) (f:=171) (g:=g) (self:=self) (ls:=ls) (λr bs hlen=>by rw[b5];exact Bo w0 g r self bs ls hlen ok.aH (by have:=ok.short;omega) x hx UQ S7)
 rwa[b5]at this
theorem iO (ls:List Ln):(cE ls).length<=ls.length:=by
 have h1:=uaD (dG ls) (aQ (aO ls));rw[cF]at h1;simpa [cE,aO]using h1
end
section
open Go.RowKit
def Nd.Room (s:Nd) (k:Nat):Prop:=s.aI.length+k<=500000/\s.out.ay.length+13*k<=900000
theorem Nd.Room.write {s:Nd} {k} (h:s.Room (k+1)) (r):(s.write r).Room k:=by
 have hb:=Rec.dz r;unfold Nd.Room at*
 simp only[Nd.write,pU,Pr,HM];omega
theorem Nd.Room.le {s:Nd} {k m} (h:s.Room k) (hm:m<=k):s.Room m:=by unfold Nd.Room at*;omega
theorem Nd.Room.cf {s:Nd} {k} (h:s.Room (k+1)) (l):(s.cf l).Room k:=by
 unfold Nd.cf;repeat' split
 all_goals first|exact h.write _|exact h.le (by omega)
theorem Nd.Room.dh {s:Nd} {k} (h:s.Room (k+1)):s.dh.Room k:=by
 unfold Nd.dh;split
 ·exact h.write _
 ·exact h.le (by omega)
theorem Nd.Kz (s:Nd) (l):(s.cf l).ls=s.ls:=by unfold Nd.cf;(repeat' split)<;>rfl
theorem Nd.xO (s:Nd):s.dh.ls=s.ls:=by unfold Nd.dh;split<;>rfl
theorem Nd.Room.oW {k} (L:List Ln):∀{s:Nd},s.Room (L.length+k)->(L.foldl Nd.cf s).Room k:=by
 induction L with
 |nil=>intro s h;exact h.le (by simp)
 |cons l L ih=>intro s h;exact ih (Nd.Room.cf (h.le (by simp only[Pr];omega)) l)
attribute [local irreducible] WS LS OpQ y6 cn cv Spec bA aK
variable (w0:World)
theorem nk (mu:Int) (gn:Nat) (s:Nd) (h:NH) (hr:s.Room 10) (ok:aW s.ls):Spec ucC w0 61 [ptr gn 0] (aY mu gn s h) (λ_:Value=> .tuple #[]) (λvr=>aY mu gn s.note {h with vr:=vr}):=by
 refine eZ Tryz.func61 Tryz.ntmps61 λG=> ?_;obtain⟨s1,iu⟩:∃s1,s1=s.dh:=⟨_,rfl⟩
 have hO:=Nd.Room.dh (k:=9) hr;have U9:aW s.dh.ls:=by rw[Nd.xO];exact ok
 have hn:s.note=(cE s1.ls).foldl Nd.cf s1:=by unfold Nd.note;rw[iu,Nd.xO]
 have Hr:=zbh w0 mu gn s h ⟨true,0,s.seq⟩ (by unfold Nd.Room at hr;omega) (by unfold Nd.Room at hr;omega);rw[hn];rw[<-iu]at hO U9;simp only[aN];clear hn;by_cases ho:s.own<s.seq;all_goals
  first
  |(have e1:s.write ⟨true,0,s.seq⟩=s1:=by rw[iu];simp[Nd.dh,ho]
    rw[e1]at Hr)
  |(have e1:s1=s:=by rw[iu];simp[Nd.dh,ho]
    subst e1)
  have Rc:=zx w0 h.tb s1.self s1.ls U9
  generalize hL:cE s1.ls=L at*
  have VL:L.length<=8:=by rw[<-hL];exact WA (iO _) U9.short
  simp only[aY]at Hr ⊢
  simp only[b7]at Hr ⊢
  repeat' (first|refine ag (id:=0) (.range 10) ?_|intro hc|refine xyZ ?_|refine aF ?_ ?_|refine cZ Hr λvr=> ?_|refine cZ Rc λx=> ?_)
  obtain⟨v,ps⟩:=x
  dsimp only
  obtain⟨h1,JX⟩:∃h1:NH,h1=h\/∃vr,h1={h with vr:=vr}:=⟨_,.inl rfl⟩
  first
  |refine cV (H':=pure' (List.map (λx=>x.fst) ps=L)*(aY mu gn s1 {h with vr:=vr}*(rows 53 7 bJ v ps*(cQ ps*G)))) (by unfold aY;simp only[b7];exact ah) ?_
  |refine cV (H':=pure' (List.map (λx=>x.fst) ps=L)*(aY mu gn s1 {h with vr:=h.vr}*(rows 53 7 bJ v ps*(cQ ps*G)))) (by unfold aY;simp only[b7];exact ah) ?_
  refine jR λMo=> ?_
  have Mn:ps.length=L.length:=by rw[<-Mo];simp
  refine aV (λk τ=>∃(j:Nat) (vr:Value),j+k=ps.length/\τ=⟨[(29,.int .i64 (j:Int)),(28,.int .i64 (ps.length:Int)),(27,v),(0,ptr gn 0)],[],aY mu gn ((L.take j).foldl Nd.cf s1) {h with vr:=vr}*(rows 53 7 bJ v ps*(cQ ps*G))⟩) ?_ ?_
  ·exact⟨ps.length,_,⟨0,_,by omega,rfl⟩,cG,rfl,by simp only[uai,uah];exact aq.refl _⟩
  ·rintro k τ ⟨j,vr,ym,rfl⟩
   rcases jP j ps.length with bW|kQ
   ·obtain⟨⟨l,p⟩,hz⟩:∃z,ps[j]? =some z:=⟨_,aX bW⟩
    have O8:L[j]? =some l:=by rw[<-Mo];simp[hz]
    have gK:(L.take (j+1)).foldl Nd.cf s1=((L.take j).foldl Nd.cf s1).cf l:=by rw[AP,O8,Qf,uaL];rfl
    have Wf:((L.take j).foldl Nd.cf s1).Room 1:=Nd.Room.oW (k:=1) _ (hO.le (by rw[Aw];omega))
    generalize (L.take j).foldl Nd.cf s1=sj at*
    have hw:=zbh w0 mu gn sj {h with vr:=vr} ⟨false,l.dest,l.seq⟩ (by unfold Nd.Room at Wf;omega) (by unfold Nd.Room at Wf;omega)
    obtain⟨ld,lq,lh,ln,lv,le,lb⟩:=l
    simp only at hw gK
    simp only[aY]at hw ⊢
    simp only[b7]at hw ⊢
    cases hm:bX sj.held ld with
    |none=>
     have jf:sj.cf ⟨ld,lq,lh,ln,lv,le,lb⟩=sj.write ⟨false,ld,lq⟩:=by simp[Nd.cf,hm]
     rw[jf]at gK
     repeat' (first|refine ag (id:=5) (.range 13) ?_|intro hc|refine xyZ ?_|refine aF ?_ ?_|((first|refine' LQ ?zh rfl ?_|refine' bk rfl rfl ?zh ?_);case zh=>intro F';exact iJ rfl rfl iI iI iI iI iI (by assumption))|refine bT λg=> ?_|refine zw0 λg=> ?_|refine cZ hw λVp=> ?_)
     exact⟨k - 1,_,by omega,⟨j+1,Vp,by omega,rfl⟩,cG,rfl,by rw[gK];dsimp only;exact ah⟩
    |some q=>
     by_cases hq:q<lq
     ·have jf:sj.cf ⟨ld,lq,lh,ln,lv,le,lb⟩=sj.write ⟨false,ld,lq⟩:=by simp[Nd.cf,hm,hq]
      rw[jf]at gK
      repeat' (first|refine ag (id:=5) (.range 13) ?_|intro hc|refine xyZ ?_|refine aF ?_ ?_|((first|refine' LQ ?zh rfl ?_|refine' bk rfl rfl ?zh ?_);case zh=>intro F';exact fD rfl rfl iI iI iI iI iI (by assumption))|refine bT λg=> ?_|refine zw0 λg=> ?_|refine cZ hw λVp=> ?_)
      exact⟨k - 1,_,by omega,⟨j+1,Vp,by omega,rfl⟩,cG,rfl,by rw[gK];dsimp only;exact ah⟩
     ·have jf:sj.cf ⟨ld,lq,lh,ln,lv,le,lb⟩=sj:=by simp[Nd.cf,hm,hq]
      rw[jf]at gK
      repeat' (first|refine ag (id:=5) (.range 13) ?_|intro hc|refine xyZ ?_|refine aF ?_ ?_|((first|refine' LQ ?zh rfl ?_|refine' bk rfl rfl ?zh ?_);case zh=>intro F';exact fD rfl rfl iI iI iI iI iI (by assumption))|refine bT λg=> ?_|refine zw0 λg=> ?_)
      exact⟨k - 1,_,by omega,⟨j+1,vr,by omega,rfl⟩,cG,rfl,by rw[gK];dsimp only;exact ah⟩
   ·obtain rfl:j=ps.length:=by omega
    rw[Gz (by omega)]
    generalize L.foldl Nd.cf s1=sj at*
    simp only[aY]
    simp only[b7]
    repeat' (first|intro hc|refine xyZ ?_|refine aF ?_ ?_)
    exact aj (.inr rfl) rfl ⟨vr,rfl,ah⟩
end
section
open Go.RowKit
set_option maxRecDepth 100000
noncomputable def R8 (f:Func):Nat:=f.params.toList.headD 0
noncomputable def U2:Go.Conc.Locks.MuLink:={lock:=62,unlock:=63,ilock:=113,iunlock:=114,lockSlow:=164,unlockSlow:=167,disable:=160,enable:=162,acquire:=163,relMerge:=165,cas32:=161,add32:=166,tMutex:=155,tIMutex:=153,tPMutex:=R8 Tryz.f62,tPIMutex:=R8 Tryz.f113,tPI32:=261,tUP:=263,tNoCopy:=151,tU32:=26}
theorem Nv:Go.Conc.Locks.MuLib ucC U2:={
 f_lock:=Tryz.func62.trans (G2 some (by kernel_rfl)),
 f_unlock:=Tryz.func63.trans (G2 some (by kernel_rfl)),
 f_ilock:=Tryz.func113.trans (G2 some (by kernel_rfl)),
 f_iunlock:=Tryz.func114.trans (G2 some (by kernel_rfl)),
 f_disable:=Tryz.func160.trans (G2 some (by kernel_rfl)),
 f_enable:=Tryz.func162.trans (G2 some (by kernel_rfl)),
 f_acquire:=Tryz.func163.trans (G2 some (by kernel_rfl)),
 f_relMerge:=Tryz.func165.trans (G2 some (by kernel_rfl)),
 f_cas32:=Tryz.func161.trans (G2 some (by kernel_rfl)),
 f_add32:=Tryz.func166.trans (G2 some (by kernel_rfl)),
 underlying_tIMutex:=by kernel_rfl,
 runUnderlying_tIMutex:=λw=>by kernel_rfl,
 sizeOf_tIMutex:=λw=>by kernel_rfl,
 isAgg_tIMutex:=λw=>by kernel_rfl,
 zeroValue_tIMutex:=λw=>by kernel_rfl,
 underlying_tMutex:=by kernel_rfl,
 runUnderlying_tMutex:=λw=>by kernel_rfl,
 sizeOf_tMutex:=λw=>by kernel_rfl,
 isAgg_tMutex:=λw=>by kernel_rfl,
 zeroValue_tMutex:=λw=>by kernel_rfl,
 underlying_tPMutex:=by kernel_rfl,
 runUnderlying_tPMutex:=λw=>by kernel_rfl,
 sizeOf_tPMutex:=λw=>by kernel_rfl,
 isAgg_tPMutex:=λw=>by kernel_rfl,
 zeroValue_tPMutex:=λw=>by kernel_rfl,
 underlying_tPIMutex:=by kernel_rfl,
 runUnderlying_tPIMutex:=λw=>by kernel_rfl,
 sizeOf_tPIMutex:=λw=>by kernel_rfl,
 isAgg_tPIMutex:=λw=>by kernel_rfl,
 zeroValue_tPIMutex:=λw=>by kernel_rfl,
 underlying_tPI32:=by kernel_rfl,
 runUnderlying_tPI32:=λw=>by kernel_rfl,
 sizeOf_tPI32:=λw=>by kernel_rfl,
 isAgg_tPI32:=λw=>by kernel_rfl,
 zeroValue_tPI32:=λw=>by kernel_rfl,
 underlying_tUP:=by kernel_rfl,
 runUnderlying_tUP:=λw=>by kernel_rfl,
 sizeOf_tUP:=λw=>by kernel_rfl,
 isAgg_tUP:=λw=>by kernel_rfl,
 zeroValue_tUP:=λw=>by kernel_rfl,
 underlying_tNoCopy:=by kernel_rfl,
 runUnderlying_tNoCopy:=λw=>by kernel_rfl,
 sizeOf_tNoCopy:=λw=>by kernel_rfl,
 isAgg_tNoCopy:=λw=>by kernel_rfl,
 zeroValue_tNoCopy:=λw=>by kernel_rfl,
 underlying_t21:=by kernel_rfl,
 runUnderlying_t21:=λw=>by kernel_rfl,
 sizeOf_t21:=λw=>by kernel_rfl,
 isAgg_t21:=λw=>by kernel_rfl,
 zeroValue_t21:=λw=>by kernel_rfl,
 room_tIMutex:=by kernel_rfl}
variable (w0:World)
theorem tO (g t cs):Spec ucC w0 62 [ptr g 0] (aK g t (.int .i32 0::cs)) (λ_:Unit=> .tuple #[]) (λ_=>aK g t (.int .i32 1::cs)):=by
 intro G w hs;have hc:w.cell? ⟨g,0,none⟩=some (.int .i32 0):=by have:=Sat.cell hs 0;simpa using this
 have hz:w.frozen? ⟨g,0,none⟩=false:=Sat.frozen hs 0;refine(Go.MuLone.lock_free (L:=U2) Nv ⟨g,0,none⟩ w hc hz).mono ?_;rintro e w' ⟨rfl,rfl⟩;refine⟨(),rfl,?_⟩;have:=Sat.set hs 0 (.int .i32 1);exact this.cast (by simp[aK])
theorem AM (g t cs):Spec ucC w0 114 [ptr g 0] (aK g t (.int .i32 1::cs)) (λ_:Unit=> .tuple #[]) (λ_=>aK g t (.int .i32 0::cs)):=by
 intro G w hs;have hc:w.cell? ⟨g,0,none⟩=some (.int .i32 1):=by have:=Sat.cell hs 0;simpa using this
 have hz:w.frozen? ⟨g,0,none⟩=false:=Sat.frozen hs 0;refine(Go.MuLone.iunlock_held (L:=U2) Nv ⟨g,0,none⟩ w hc hz).mono ?_;rintro e w' ⟨rfl,rfl⟩;refine⟨(),rfl,?_⟩;have:=Sat.set hs 0 (.int .i32 0);exact this.cast (by simp[aK])
attribute [local irreducible] WS LS OpQ y6 cn cv Spec bA aK
theorem sQ {u:FrameMode} {K:FrameMode->af->Prop} {g:Nat} {t:TypeId} {cs nv:List Value} {H F:af} (hl:v7 H g t nv F) (hc:nv= .int .i32 1::cs) (hk:K u (aK g t (.int .i32 0::cs)*F)):iQ ucC w0 63 [ptr g 0] u H K:=by
 rw[hl.eq,hc];have p1:=AM w0 g t cs;refine iQ.enter Tryz.func63 rfl Tryz.ntmps63 rfl ?_;simp only[aN];repeat' (first|refine ax ?_|refine cZ p1 λg=> ?_)
 exact aj (.inr rfl) rfl hk
end
section
open Go.RowKit
theorem aW.set {ls:List Ln} (h:aW ls) {i} {l x:Ln} (hl:ls[i]? =some l) (hd:x.dest=l.dest) (h1:0<=x.aH/\x.aH<=1000) (h2:x.before.length<=4):aW (ls.set i x):=by
 obtain⟨bW,he⟩:=az.1 hl;have e:aO (ls.set i x)=aO ls:=by
  exact pbx
 refine⟨by rw[e];exact h.nodup,by simp;exact h.short,λy hy=> ?_,λy hy=> ?_⟩
 ·rcases W7 hy with hy|rfl
  ·exact h.aH y hy
  ·exact h1
 ·rcases W7 hy with hy|rfl
  ·exact h.before y hy
  ·exact h2
theorem aW.mod {ls} (h:aW ls) (d f) (hd:∀l∈ls,(f l).dest=l.dest) (h1:∀l∈ls,0<=(f l).aH/\(f l).aH<=1000) (h2:∀l∈ls,(f l).before.length<=4):aW (lP ls d f):=by
 cases hf:cN ls d with
 |none=>rw[lP,hf];exact h
 |some i=>
  obtain⟨l,hl,_⟩:=dw hf;rw[fm hf hl];have hm:=jq hl;exact h.set hl (hd l hm) (h1 l hm) (h2 l hm)
theorem aW.map {ls:List Ln} (h:aW ls) (f) (hd:∀l∈ls,(f l).dest=l.dest) (h1:∀l∈ls,0<=(f l).aH/\(f l).aH<=1000) (h2:∀l∈ls,(f l).before.length<=4):aW (ls.map f):=by
 have e:aO (ls.map f)=aO ls:=by
  unfold aO;rw[ub0];exact Z8 hd
 refine⟨by rw[e];exact h.nodup,by simp;exact h.short,λy hy=> ?_,λy hy=> ?_⟩;all_goals
  obtain⟨l,hl,rfl⟩:=HC.1 hy
  first|exact h1 l hl|exact h2 l hl
theorem aW.exp {ls} (h:aW ls) (now):aW (mE now ls):=by
 refine h.map _ (λl hl=> ?_) (λl hl=> ?_) (λl hl=> ?_);all_goals
  have h1:=h.aH l hl
  have h2:=h.before l hl
  unfold Ln.exp
  split<;>simp_all [Ln.ended]
theorem aW.brk {ls} (h:aW ls) (nb):aW (nH nb ls):=by
 refine h.map _ (λl hl=> ?_) (λl hl=> ?_) (λl hl=> ?_);all_goals
  have h1:=h.aH l hl
  have h2:=h.before l hl
  unfold Ln.brk
  split<;>simp_all [Ln.ended]
theorem aW.use {ls} (h:aW ls) (d e):aW (iY ls d e):=by
 refine h.mod _ _ (λl hl=> ?_) (λl hl=> ?_) (λl hl=> ?_);all_goals
  have h1:=h.aH l hl
  have h2:=h.before l hl
  split<;>simp_all
theorem aW.bump {ls} (h:aW ls) (d):aW (ia ls d):=by
 refine h.mod _ _ (λl hl=> ?_) (λl hl=> ?_) (λl hl=> ?_);all_goals
  have h1:=h.aH l hl
  have h2:=h.before l hl
  simp_all
theorem aW.gI {ls} (h:aW ls) (src d s):aW (iS ls src d s):=by
 refine h.mod _ _ (λl hl=> ?_) (λl hl=> ?_) (λl hl=> ?_);all_goals
  have h1:=h.aH l hl
  have h2:=h.before l hl
  split<;>simp_all [Ln.ended]
theorem Dh (bs:List UInt32) (n):(sI bs n).length<=bs.length+1:=by
 unfold sI bY;split<;>simp
theorem aW.FK {ls} (h:aW ls) (d nb):aW (gF ls d nb):=by
 refine h.mod _ _ (λl hl=> ?_) (λl hl=> ?_) (λl hl=> ?_);all_goals
  have h1:=h.aH l hl
  have h2:=h.before l hl
  have h3:=Dh l.before nb
  split<;>simp_all
 omega
theorem Cz {d ls} (h:cN ls d=none):d∉aO ls:=by
 intro hm;obtain⟨l,hl,e⟩:=HC.1 hm;exact lN.1 h l hl e
theorem aW.put {ls:List Ln} (h:aW ls) (x:Ln) (hs:cN ls x.dest=none->ls.length<8) (h1:0<=x.aH/\x.aH<=1000) (h2:x.before.length<=4):aW (j8 ls x):=by
 unfold j8;cases hf:cN ls x.dest with
 |some i=>
  obtain⟨l,hl,hd⟩:=dw hf;exact h.set hl hd.symm h1 h2
 |none=>
  have hn:=Cz hf;have bW:=hs hf;refine⟨?_,by simp;omega,λy hy=> ?_,λy hy=> ?_⟩
  ·have e:aO (ls++[x])=aO ls++[x.dest]:=by simp[aO]
   rw[e];exact Yw.2 ⟨h.nodup,by simp,λa ha b hb=>by simp at hb;subst hb;exact λe=>hn (e▸ha)⟩
  all_goals
   rcases Lz.1 hy with hy|hy
   ·first|exact h.aH y hy|exact h.before y hy
   ·simp at hy;subst hy;first|exact h1|exact h2
theorem aW.La {ls} (h:aW ls) (self) (x:Ln) (h1:0<=x.aH/\x.aH<=1000):aW (dI self ls x).2:=by
 unfold dI;split
 ·exact h
 ·cases hg:dG ls x.dest with
  |some l=>
   dsimp only;split
   ·exact h
   ·refine h.put _ (λhf=> ?_) h1 (by simp);simp only at hf;rw[jI hf]at hg;cases hg
  |none=>
   dsimp only;split
   ·exact h
   ·exact h.put _ (λ_=>by omega) h1 (by simp)
theorem aW.nil:aW []:=⟨by simp[aO],by simp,by simp,by simp⟩
theorem aW.new (self c):aW (iV self c):=by
 induction c using eE with
 |nil=>exact aW.nil
 |snoc c r ih=>
  rw[pJ];unfold fe;split
  ·rename_i hc;exact ih.put _ (λ_=>hc.2.2) (by simp[Rec.ln]) (by simp[Rec.ln])
  ·exact ih
end
section
open Go.RowKit
section
variable {P:Program} {n:fT} {w0:World} {E:Env} {D:List Deferred} {H F:af} {ops:Array Oper} {l':List Oper} {Q:Exit->St->Prop} {d:Option Tmp} {ty:TypeId} {pos:String} {after:Array Edge} {gu:Option (Tmp×Bool)}
theorem IK {t:Tmp} {f:FuncId} {args im:List Value} {α:Type} {X:af} {res:α->Value} {post:α->af} {xs:List Operand} {ts:Array TypeId} (hf:aA P f) (ht:E.get t=some (.func (.func f) #[] im.toArray)) (eB:E.mU xs=some args) (spec:Spec P w0 f (args++im) X res post) (hl:Own H X F):
 cn P n w0 ⟨d,.call ⟨.value (.tmp t),xs.toArray,ts⟩,ty,pos,after,gu⟩ E H res (λx=>post x*F):=cn.mk' (LY hf ht eB spec) hl.eq
end
def jg (g:Nat) (s:Nd):af:=hex λp:NH×dS=>aK g 159 (b7 0 s p.1 p.2)*(rows 28 3 Rec.cells p.1.vr s.aI*(mp u32 u32 p.1.rh s.held*(dR p.1.tb s.self s.ls*ba g s p.1)))
theorem rv {P n w0 E D F c Q g} {s:Nd} (h:∀(h:NH) (o:dS),WS P n w0 c Q ⟨E,D,(aK g 159 (b7 0 s h o)*(rows 28 3 Rec.cells h.vr s.aI*(mp u32 u32 h.rh s.held*(dR h.tb s.self s.ls*ba g s h))))*F⟩):WS P n w0 c Q ⟨E,D,jg g s*F⟩:=by
 unfold jg;exact iU λp=>h p.1 p.2
theorem jc {g} {s:Nd} {H F} (h:NH) (o) (e:aq H ((aK g 159 (b7 0 s h o)*(rows 28 3 Rec.cells h.vr s.aI*(mp u32 u32 h.rh s.held*(dR h.tb s.self s.ls*ba g s h))))*F)):aq H (jg g s*F):=aq.mX (p:=λp:NH×dS=>aK g 159 (b7 0 s p.1 p.2)*(rows 28 3 Rec.cells p.1.vr s.aI*(mp u32 u32 p.1.rh s.held*(dR p.1.tb s.self s.ls*ba g s p.1)))) (h,o) e
def fp (o:dS) (v:Value×Value×Value):Value:= .agg #[aZ o.ay,.bool o.replace,v.1,v.2.1,v.2.2]
def r5 (o:dS) (v:Value×Value×Value):af:=rows 48 2 dA v.1 o.aJ*(rows 70 2 dA v.2.1 o.cj*rows 166 1 lr v.2.2 o.dropped)
theorem Nd.EP (s:Nd) (l):(s.cf l).aI.length<=s.aI.length+1:=by
 unfold Nd.cf;(repeat' split)<;>simp[Nd.write]
theorem Nd.ET (s:Nd):s.dh.aI.length<=s.aI.length+1:=by
 unfold Nd.dh;split<;>simp[Nd.write]
theorem Nd.CS (L:List Ln):∀s:Nd,(L.foldl Nd.cf s).aI.length<=s.aI.length+L.length:=by
 induction L with
 |nil=>intro s;simp
 |cons l L ih=>intro s;have h1:=ih (s.cf l);have h2:=s.EP l;simp only[Uq,Pr];omega
theorem Nd.nj (s:Nd) (ok:aW s.ls):s.note.aI.length<=s.aI.length+9:=by
 have h1:=Nd.CS (cE s.ls) s.dh;have h2:=s.ET;have h3:=iO s.ls;have h4:=ok.short;unfold Nd.note;omega
attribute [local irreducible] WS LS OpQ y6 cn cv Spec bA aK
variable (w0:World)
theorem pB {β:Type} (gn:Nat) (s s2:Nd) (now:UInt64) (hr:s.aI.length<=400000) (ok:aW s.ls) (Lu:s2.aI.length<=9000) (V0:s2.out.ay.length<=800000) (Px:aW s2.ls) (fc:FuncId) (im:List Value) (X:af) (Y:β->af) [hf:aA ucC fc]
 (Dy:Spec ucC w0 fc im (eD gn (s.begin now)*X) (λ_:β=> .tuple #[]) (λy=>eD gn s2*Y y)):
 Spec ucC w0 64 [ptr gn 0,u64 now,.func (.func fc) #[] im.toArray] (jg gn s*X) (λx:(Value×Value×Value)×β=>fp s2.done.out x.1) (λx=>jg gn s2.done*(r5 s2.done.out x.1*Y x.2)):=by
 refine Spec.jr Tryz.func64 rfl Tryz.ntmps64 rfl λG=> ?_
 rw[ad]
 refine rv λh o=> ?_
 simp only[aN,b7]
 have p1:=tO w0 gn 159 (b7 0 s h o).tail
 have p2:=B4 w0 h.tb s.self s.ls ok now
 simp only[b7,List.tail_cons]at p1
 repeat' (first|intro K hK|refine ax ?_|refine bQ λg=> ?_|(refine ai (ph iI) rfl ?_;intro go)|refine cZ p1 λu1=> ?_|refine cZ p2 λu2=> ?_|refine we rfl rfl rfl ?_)
 simp only[Env.zaI]
 obtain⟨h1,JX⟩:∃h1:NH,h1={h with vf:= .slice none 0 0,vc:= .slice none 0 0,vd:= .slice none 0 0}:=⟨_,rfl⟩
 obtain⟨s1,iu⟩:∃s1:Nd,s1={s with now:=now,out:=dS.zero,ls:=mE now s.ls}:=⟨_,rfl⟩
 have eb:s.begin now=s1.note:=by rw[iu];rfl
 have p3:=nk w0 1 gn s1 h1 (by rw[iu];unfold Nd.Room;simp only[dS.zero,HM];omega) (by rw[iu];exact ok.exp now)
 have er:ba gn s h=ba gn s1 h1:=by rw[iu,JX];rfl
 refine fJ (aq.nil _ 48 2 dA none) ?_
 refine fJ (aq.nil _ 70 2 dA none) ?_
 refine fJ (aq.nil _ 166 1 lr none) ?_
 refine fJ (H':=bG gn s1 h1*(aK go 35 [aZ [],.bool false,.slice none 0 0,.slice none 0 0,.slice none 0 0]*(X*G))) (by rw[er];rw[iu,JX];simp only[bG,aY,b7,cw,dS.zero];exact ah) ?_
 clear er
 repeat' (first|intro K hK|refine ax ?_|refine cZ p3 λv3=> ?_)
 refine fJ (aq.nod (g:=gn) (s:=s1.note) (F:=X*(aK go 35 [aZ [],.bool false,.slice none 0 0,.slice none 0 0,.slice none 0 0]*G)) {h1 with vr:=v3} (ah)) ?_
 rw[<-eb]
 repeat' (first|intro K hK|refine ax ?_|(refine ai (IK hf rfl rfl Dy iI) rfl ?_;intro y))
 rw[ad]
 refine z8 λh2=> ?_
 have p4:=nk w0 1 gn s2 h2 ⟨by omega,by omega⟩ Px
 have vT:=Nd.nj s2 Px
 have Dy:=zad s2.note.aI
 simp only[bG,aY,cw]at p4 ⊢
 simp only[b7]at p4 ⊢
 by_cases hm:24<s2.note.aI.length
 ·have p5:=λv=>qv w0 s2.note.aI (by omega) v (rows 28 3 Rec.cells v s2.note.aI)
  have p6:=λv=>yP w0 (cC s2.note.aI) (by omega) v (rows 28 3 Rec.cells v (cC s2.note.aI))
  have hd:s2.done={s2.note with aI:=cC s2.note.aI,out:={s2.note.out with ay:=b9 (cC s2.note.aI),replace:=true}}:=by unfold Nd.done;rw[jF hm]
  repeat' (first|intro hc|refine yZ ?_|refine aF ?_ ?_|((refine' LQ ?zh rfl ?_);case zh=>intro F';exact kY rfl iI rfl iI iI iI)|refine cZ p4 λv4=> ?_|(refine ai (aa iI rfl (p5 _) iI) rfl ?_;intro vc)|(refine ai (aa iI rfl (p6 _) iI) rfl ?_;intro vb))
  refine zcc (pH (u:= .returning) (im:=[]) (args:=[ptr gn 0]) (by simp) iI ?_)
  refine sQ w0 iI rfl ?_
  refine zbu rfl (aS rfl iI iI rfl) ⟨((h2.vf,h2.vc,h2.vd),y),by rw[hd];rfl,?_⟩
  rw[hd]
  unfold r5
  rw[ad (jg _ _)]
  refine jc {h2 with vr:=vc} {s2.note.out with ay:=b9 (cC s2.note.aI),replace:=true} ?_
  have er:ba gn {s2.note with aI:=cC s2.note.aI,out:={s2.note.out with ay:=b9 (cC s2.note.aI),replace:=true}} {h2 with vr:=vc}=ba gn s2.note {h2 with vr:=v4}:=rfl
  dsimp only
  rw[er]
  simp only[b7]
  exact ah
 ·have hd:s2.done=s2.note:=by unfold Nd.done;rw[eQ hm]
  repeat' (first|intro hc|refine yZ ?_|refine aF ?_ ?_|refine cZ p4 λv4=> ?_)
  refine zcc (pH (u:= .returning) (im:=[]) (args:=[ptr gn 0]) (by simp) iI ?_)
  refine sQ w0 iI rfl ?_
  refine zbu rfl (aS rfl iI iI rfl) ⟨((h2.vf,h2.vc,h2.vd),y),by rw[hd];rfl,?_⟩
  rw[hd]
  unfold r5
  rw[ad (jg _ _)]
  refine jc {h2 with vr:=v4} s2.note.out ?_
  simp only[b7]
  exact ah
end
section
open Go.RowKit
def Pk.gI (l:List (UInt32×UInt32)):Pk:=⟨1,3,0,false,0,0,0,0,0,0,l,[]⟩
def Nd.tell (s:Nd) (to dest seq:UInt32):Nd:=s.send to (Pk.gI [(dest,seq)])
def Nd.gQ (s:Nd) (now:UInt64) (from_:UInt32) (f:cP):Nd:=match Pk.dec f with
 |none=>s.drop 0
 |some p=>if from_=0\/from_=s.self then s.drop 0 else
  if p.kind=9/\p.dest≠s.self then Nd.drop {s.tell from_ p.dest (eJ s.ls p.dest)with cd:=now+2000} 8 else s.drop 8
def Nd.LK (s:Nd) (now:UInt64) (from_:UInt32) (f:cP):Prop:=Pk.dec f=none\/(from_=0\/from_=s.self)\/now<s.cd
theorem Pk.pG (l:List (UInt32×UInt32)) (h:l.length<=100000):(Pk.gI l).Ok:=by
 constructor<;>simp[Pk.gI,cM,h]
attribute [local irreducible] WS LS OpQ y6 cn cv Spec bA aK
variable (w0:World)
theorem zV (gn) (s:Nd) (h to dest seq) (hd:s.out.aJ.length<=900000):Spec ucC w0 68 [ptr gn 0,u32 to,u32 dest,u32 seq] (bG gn s h) (λ_:Value=> .tuple #[]) (λvf=>bG gn (s.tell to dest seq) {h with vf:=vf}):=by
 have p1:=λv hv=>lW w0 gn s h to (Pk.gI [(dest,seq)]) (Pk.pG _ (by simp)) v hv (rows 180 2 bB v [(dest,seq)]) (hX:=fy _ _ _ _ _) hd;simp only[Pk.val,Pk.cells,Pk.gI]at p1;refine eZ Tryz.func68 Tryz.ntmps68 λG=> ?_;simp only[aN];repeat' (first|refine ax ?_|(refine ai (au bB [(dest,seq)] iI iI iI rfl rfl rfl rfl rfl iI rfl rfl rfl) rfl ?_;intro vl;refine pj vl iI λA cap hv=> ?_;subst hv)|(refine ai (aa iI rfl (p1 _ rfl) iI) rfl ?_;intro vf))
 exact aj (.inr rfl) rfl ⟨vf,rfl,by unfold Nd.tell Pk.gI;exact ah⟩
theorem HV (gn) (s:Nd) (now from_) (f:cP) (hq:s.LK now from_ f) (hf:f.length<=100000) (hd:s.out.aJ.length<=10000) (rU:s.out.dropped.length<=10000) (bf br bn bw tf tr tn tw v X) [hX:eX w0 X v UInt8 1 bU f]:
 Spec ucC w0 65 [ptr bf 0,ptr br 0,ptr bn 0,ptr bw 0] (eD gn s*(aK bf tf [v]*(aK br tr [u32 from_]*(aK bn tn [ptr gn 0]*(aK bw tw [u64 now]*X))))) (λ_:Unit=> .tuple #[]) (λ_=>eD gn (s.gQ now from_ f)*X):=by
 have p1:=sT w0 f hf v X
 refine eZ Tryz.func65 Tryz.ntmps65 λG=> ?_
 rw[ad (eD gn s)]
 refine wA λh=> ?_
 have p2:=iE w0 gn s h 0 (by omega)
 have p3:=iE w0 gn s h 8 (by omega)
 have p4:=λd=>mo w0 h.tb s.self s.ls d
 have p5:=λd q=>zV w0 gn s h from_ d q (by omega)
 unfold Nd.LK at hq
 unfold j6 ey at p1
 cases hp:Pk.dec f with
 |none=>
  have es:s.gQ now from_ f=s.drop 0:=by unfold Nd.gQ;rw[hp]
  simp only[hp,Ju,sH,Pk.val,Pk.cells,Pk.zero]at p1
  simp only[aN]
  repeat' (first|intro hc|refine yZ ?_|refine aF ?_ ?_|refine mO (by kernel_rfl) ?_|refine cZ p1 λvl=> ?_|refine cZ p2 λv2=> ?_)
  exact aj (.inr rfl) rfl ⟨(),rfl,by rw[es,ad (eD _ _)];exact aq.nod {h with vd:=v2} (ah)⟩
 |some p=>
  simp only[hp,CV,uz,Pk.val,Pk.cells]at p1
  by_cases h0:from_=0\/from_=s.self
  ·have es:s.gQ now from_ f=s.drop 0:=by unfold Nd.gQ;rw[hp];simp only[h0,YZ]
   clear p3 p4 p5
   simp only[aN]
   rcases h0 with h0|h0
   ·repeat' (first|intro hc|refine yZ ?_|refine aF ?_ ?_|refine mO (by kernel_rfl) ?_|refine cZ p1 λvl=> ?_|refine cZ p2 λv2=> ?_)
    exact aj (.inr rfl) rfl ⟨(),rfl,by rw[es,ad (eD _ _)];exact aq.nod {h with vd:=v2} (ah)⟩
   ·by_cases Y1:from_=0
    ·repeat' (first|intro hc|refine yZ ?_|refine aF ?_ ?_|refine mO (by kernel_rfl) ?_|refine cZ p1 λvl=> ?_|refine cZ p2 λv2=> ?_)
     exact aj (.inr rfl) rfl ⟨(),rfl,by rw[es,ad (eD _ _)];exact aq.nod {h with vd:=v2} (ah)⟩
    ·simp only[bG,aY,b7]at p2 ⊢
     repeat' (first|refine zgH ?_|intro hc|refine yZ ?_|refine aF ?_ ?_|refine cZ p1 λvl=> ?_|refine cZ p2 λv2=> ?_)
     exact aj (.inr rfl) rfl ⟨(),rfl,by rw[es,ad (eD _ _)];exact aq.nod {h with vd:=v2} (by simp only[bG,aY,b7];exact ah)⟩
  ·have hs:now<s.cd:=by
    rcases hq with hq|hq|hq
    ·rw[hp]at hq;cases hq
    ·exact absurd hq h0
    ·exact hq
   obtain⟨bK,kind,aH,unknown,id,dest,ak,QH,av,bD,lost,ar⟩:=p
   have h1:from_≠0:=λe=>h0 (.inl e)
   have h2:from_≠s.self:=λe=>h0 (.inr e)
   simp only at p1
   by_cases hk:kind=9
   ·subst hk
    by_cases PZ:dest=s.self
    ·have es:s.gQ now from_ f=s.drop 8:=by unfold Nd.gQ;rw[hp];simp[h1,h2,PZ]
     exact pau
    ·obtain⟨s1,iu⟩:∃s1:Nd,s1=s.tell from_ dest (eJ s.ls dest):=⟨_,rfl⟩
     have es:s.gQ now from_ f=Nd.drop {s1 with cd:=now+2000} 8:=by unfold Nd.gQ;rw[hp,iu];simp[h1,h2,PZ]
     have er:∀h',ba gn {s1 with cd:=now+2000} h'=ba gn s1 h':=λ_=>rfl
     have p6:=λvf=>iE w0 gn {s1 with cd:=now+2000} {h with vf:=vf} 8 (by rw[iu];show s.out.dropped.length<=_;omega)
     replace p4:=p4 dest
     replace p5:=p5 dest (eJ s.ls dest)
     rw[<-iu]at p5
     clear p2 p3
     simp only[bG,aY,b7,er]at p5 p6 ⊢
     simp only[aN]
     repeat' (first|refine zgH ?_|refine ag (id:=4) (.range 7) ?_|refine ag (id:=5) (.range 12) ?_|refine ae (id:=6) (.range 12) 6 [0,3,5] ?_|intro hc|refine yZ ?_|refine aF ?_ ?_|refine zw1 ?_|refine cZ p1 λvl=> ?_|refine cZ p4 λu4=> ?_|(refine ai (aa iI rfl p5 iI) rfl ?_;intro vf;replace p6:=p6 vf)|refine cZ p6 λv2=> ?_)
     exact aj (.inr rfl) rfl ⟨(),rfl,by rw[es,ad (eD _ _)];exact aq.nod {h with vf:=vf,vd:=v2} (by simp only[bG,aY,b7];exact ah)⟩
   ·have es:s.gQ now from_ f=s.drop 8:=by unfold Nd.gQ;rw[hp];simp[h1,h2,hk]
    exact pau
end
section
open Go.RowKit
theorem Nd.EO (s:Nd) (l):(s.cf l).out.ay.length<=s.out.ay.length+13:=by
 unfold Nd.cf;(repeat' split)<;>simp[Nd.write,Rec.dz]
theorem Nd.zdL (s:Nd):s.dh.out.ay.length<=s.out.ay.length+13:=by
 unfold Nd.dh;split<;>simp[Nd.write,Rec.dz]
theorem Nd.CR (L:List Ln):∀s:Nd,(L.foldl Nd.cf s).out.ay.length<=s.out.ay.length+13*L.length:=by
 induction L with
 |nil=>intro s;simp
 |cons l L ih=>intro s;have h1:=ih (s.cf l);have h2:=s.EO l;simp only[Uq,Pr];omega
theorem Nd.zI (s:Nd) (ok:aW s.ls):s.note.out.ay.length<=s.out.ay.length+117:=by
 have h1:=Nd.CR (cE s.ls) s.dh;have h2:=s.zdL;have h3:=iO s.ls;have h4:=ok.short;unfold Nd.note;omega
structure Nd.fz (s t:Nd):Prop where
 ls:t.ls=s.ls
 self:t.self=s.self
 seq:t.seq=s.seq
 cd:t.cd=s.cd
 seen:t.seen=s.seen
 order:t.order=s.order
 wait:t.wait=s.wait
 bu:t.bu=s.bu
 bI:t.bI=s.bI
 last:t.last=s.last
 names:t.names=s.names
 ids:t.ids=s.ids
 ff:t.ff=s.ff
 aP:t.aP=s.aP
 now:t.now=s.now
 aJ:t.out.aJ=s.out.aJ
 cj:t.out.cj=s.out.cj
 dropped:t.out.dropped=s.out.dropped
 replace:t.out.replace=s.out.replace
theorem Nd.fz.PA (s:Nd):s.fz s:=by constructor<;>rfl
theorem Nd.fz.write (s:Nd) (r):s.fz (s.write r):=by constructor<;>rfl
theorem Nd.fz.trans {s t u:Nd} (h:s.fz t) (k:t.fz u):s.fz u:=by
 constructor
 ·exact k.ls.trans h.ls
 ·exact k.self.trans h.self
 ·exact k.seq.trans h.seq
 ·exact k.cd.trans h.cd
 ·exact k.seen.trans h.seen
 ·exact k.order.trans h.order
 ·exact k.wait.trans h.wait
 ·exact k.bu.trans h.bu
 ·exact k.bI.trans h.bI
 ·exact k.last.trans h.last
 ·exact k.names.trans h.names
 ·exact k.ids.trans h.ids
 ·exact k.ff.trans h.ff
 ·exact k.aP.trans h.aP
 ·exact k.now.trans h.now
 ·exact k.aJ.trans h.aJ
 ·exact k.cj.trans h.cj
 ·exact k.dropped.trans h.dropped
 ·exact k.replace.trans h.replace
theorem Nd.fz.cf (s:Nd) (l):s.fz (s.cf l):=by
 unfold Nd.cf;(repeat' split)<;>first|exact Nd.fz.write _ _|exact Nd.fz.PA _
theorem Nd.fz.dh (s:Nd):s.fz s.dh:=by
 unfold Nd.dh;split
 ·exact Nd.fz.write _ _
 ·exact Nd.fz.PA _
theorem Nd.fz.oW (L:List Ln):∀s:Nd,s.fz (L.foldl Nd.cf s):=by
 induction L with
 |nil=>intro s;exact Nd.fz.PA s
 |cons l L ih=>intro s;exact(Nd.fz.cf s l).trans (ih _)
theorem Nd.fz.note (s:Nd):s.fz s.note:=(Nd.fz.dh s).trans (Nd.fz.oW _ _)
theorem Nd.DR (s:Nd) (now):(s.begin now).self=s.self:=(Nd.fz.note _).self
theorem Nd.lk (s:Nd) (now):(s.begin now).out.aJ=[]:=(Nd.fz.note _).aJ
theorem Nd.wM (s:Nd) (now):(s.begin now).out.cj=[]:=(Nd.fz.note _).cj
theorem Nd.mC (s:Nd) (now):(s.begin now).out.dropped=[]:=(Nd.fz.note _).dropped
theorem Nd.fL (s:Nd) (now) (ok:aW s.ls):(s.begin now).aI.length<=s.aI.length+9:=by
 have:=Nd.nj {s with now:=now,out:=dS.zero,ls:=mE now s.ls} (ok.exp now);exact this
theorem Nd.fK (s:Nd) (now) (ok:aW s.ls):(s.begin now).out.ay.length<=117:=by
 have:=Nd.zI {s with now:=now,out:=dS.zero,ls:=mE now s.ls} (ok.exp now);simpa [dS.zero,Nd.begin]using this
attribute [local irreducible] WS LS OpQ y6 cn cv Spec bA aK
variable (w0:World)
theorem AY (gn) (s:Nd) (ok:aW s.ls):
 Spec ucC w0 36 [ptr gn 0] (jg gn s) (λx:Value×List da=>x.1) (λx=>jg gn s*(pure' (x.2.map (·.1)=cE s.ls)*(rows 53 7 bJ x.1 x.2*cQ x.2))):=by
 refine Spec.jr Tryz.func36 rfl Tryz.ntmps36 rfl λG=> ?_
 refine rv λh o=> ?_
 simp only[aN,b7]
 have p1:=tO w0 gn 159 (b7 0 s h o).tail
 have p2:=zx w0 h.tb s.self s.ls ok
 simp only[b7,List.tail_cons]at p1
 repeat' (first|intro K hK|refine ax ?_|refine cZ p1 λu1=> ?_|refine cZ p2 λx=> ?_|refine we rfl rfl rfl ?_)
 simp only[Env.zaI]
 refine zcc (pH (u:= .returning) (im:=[]) (args:=[ptr gn 0]) (by simp) iI ?_)
 refine sQ w0 iI rfl ?_
 refine zbu rfl (bh rfl) ⟨x,rfl,?_⟩
 rw[ad (jg _ _)]
 refine jc h o ?_
 simp only[b7]
 exact ah
end
section
def seenAt (m:List (Rq×UInt64)) (r:Rq):UInt64:=(bX m r).getD 0
def pO (now:UInt64) (p:List (Rq×UInt64)×List Rq) (x:Rq):List (Rq×UInt64)×List Rq:=if now<seenAt p.1 x then(p.1,p.2++[x])else(gq p.1 x,p.2)
def dg (now:UInt64) (m:List (Rq×UInt64)) (l:List Rq):List (Rq×UInt64)×List Rq:=l.foldl (pO now) (m,[])
def pE (m:List (Rq×UInt64)) (l:List Rq) (i:Nat) (j:Nat):Nat:=if seenAt m (l.getD j ⟨0,0⟩)<seenAt m (l.getD i ⟨0,0⟩)then j else i
def ib (m:List (Rq×UInt64)) (l:List Rq) (k:Nat):Nat:=(List.range k).foldl (pE m l) 0
theorem nM (m l k):ib m l (k+1)=pE m l (ib m l k) k:=by simp[ib,ubU]
theorem nL (m:List (Rq×UInt64)) (l:List Rq):∀k,k<=l.length->0<l.length->ib m l k<l.length
 |0,_,h=>h
 |k+1,hk,h=>by
  have:=nL m l k (by omega) h;rw[nM];unfold pE;split<;>omega
def Nd.aT (s:Nd) (r:Rq):Nd:=
 let p:=dg s.now s.seen s.order
 let m:=bY p.1 r (s.now+1280)
 let l:=p.2++[r]
 if l.length<=16 then {s with seen:=m,order:=l}else
 let i:=ib m l l.length
 {s with seen:=gq m (l.getD i ⟨0,0⟩),order:=l.take i++l.drop (i+1)}
theorem oY (now m l x):dg now m (l++[x])=pO now (dg now m l) x:=by simp[dg]
theorem mJ (now m) (l:List Rq):(dg now m l).2.length<=l.length:=by
 induction l using eE with
 |nil=>simp[dg]
 |snoc l x ih=>
  rw[oY];unfold pO;split<;>simp<;>omega
def Nd.ir (s:Nd):UInt64:=s.now+3000
def Ln.bj (dest seq:UInt32) (aH:Int) (next:UInt32) (e:UInt64):Ln:=⟨dest,seq,aH,next,false,e,[]⟩
def Nd.answer (s:Nd) (p:Pk):Nd:=match bR s.ls p.from_ s.now with
 |some b=>s.send b.next {p with bK:=8,kind:=2}
 |none=>s.drop 3
def xp (p:Pk):Int:=min (p.aH+1) 255
def Nd.gR (s:Nd) (p:Pk):Nd:=
 if p.bK=1 then s.drop 4 else
 match dG s.ls p.dest with
 |some l=>s.send 0 {p with bK:=p.bK - 1,aH:=xp p,ak:=max p.ak l.seq,unknown:=false}
 |none=>s.send 0 {p with bK:=p.bK - 1,aH:=xp p}
def Nd.Jd (s:Nd) (p:Pk) (x:Ln):Nd:=
 Nd.answer {s with ls:=gF (match bR s.ls p.from_ s.now with|some b=>gF s.ls p.dest b.next|none=>s.ls) p.from_ x.next} ⟨0,0,x.aH,false,0,p.dest,x.seq,p.from_,0,(x.cB - s.now).toUInt32,[],[]⟩
def Nd.jy (s:Nd) (p:Pk):Nd:=
 if p.dest=s.self then
  let q:=if p.unknown then s.seq else max s.seq p.ak
  Nd.answer {s with seq:=q} ⟨0,0,0,false,0,p.dest,q,p.from_,0,6000,[],[]⟩
 else match bR s.ls p.dest s.now with
 |some x=>if p.unknown=true\/p.ak<=x.seq then s.Jd p x else s.gR p
 |none=>s.gR p
def Nd.Sg (s:Nd) (src:UInt32) (p:Pk):Int×List Ln:=dI s.self s.ls (Ln.bj p.from_ p.av (xp p) src s.ir)
def Nd.qd (s:Nd) (src:UInt32) (p:Pk):Nd:=
 if p.from_=s.self\/s.now<seenAt s.seen ⟨p.from_,p.id⟩then s.drop 1 else
 let s1:=s.aT ⟨p.from_,p.id⟩
 let u:=s1.Sg src p
 if u.1=4 then Nd.drop {s1 with ls:=u.2} 2 else
 Nd.jy {s1 with ls:=if u.1=3 then iY u.2 p.from_ s1.ir else u.2} p
def Nd.lost (s:Nd) (l:List (UInt32×UInt32)):Nd:=if 0<l.length then s.send 0 (Pk.gI l)else s
def lR (src:UInt32) (a:List Ln×List (UInt32×UInt32)×Bool) (l:UInt32×UInt32):List Ln×List (UInt32×UInt32)×Bool:=
 (iS a.1 src l.1 l.2,if(fR a.1 src l.1&&decide (0<((dG a.1 l.1).getD Ln.zero).before.length))=true then a.2.1++[(l.1,eJ (iS a.1 src l.1 l.2) l.1)]else a.2.1,a.2.2||fR a.1 src l.1)
def bV (src:UInt32) (ls:List Ln) (l:List (UInt32×UInt32)):List Ln×List (UInt32×UInt32)×Bool:=l.foldl (lR src) (ls,[],false)
def Nd.xC (s:Nd) (src:UInt32) (p:Pk):Nd:=
 let a:=bV src s.ls p.lost
 let s1:=Nd.lost {s with ls:=a.1} a.2.1
 if a.2.2=true then s1 else s1.drop 7
def Nd.cj (s:Nd) (x:UInt32×cP):Nd:={s with out:={s.out with cj:=s.out.cj++[x]}}
def Nd.ov (s:Nd) (src:UInt32) (p:Pk):Nd:=
 if p.dest=s.self then s.cj (p.from_,p.ar)else
 if p.bK=1 then s.drop 4 else
 match bR s.ls p.dest s.now with
 |none=>Nd.tell {s.drop 3 with ls:=ia s.ls p.dest} src p.dest (eJ (ia s.ls p.dest) p.dest)
 |some x=>{s.send x.next {p with bK:=p.bK - 1}with ls:=iY (iY s.ls p.dest s.ir) p.from_ s.ir}
def Nd.brk (s:Nd) (nb:UInt32):Nd:=Nd.lost {s with ls:=nH nb s.ls} (jh nb (aQ (aO s.ls)) s.ls)
def Nd.hand (s:Nd) (dest:UInt32) (text:cP):Nd:=match bR s.ls dest s.now with
 |none=>s
 |some x=>{Nd.send {s with ff:=s.ff+1} x.next ⟨8,9,0,false,s.ff+1,dest,0,s.self,0,0,[],text⟩with ls:=iY s.ls dest s.ir}
def eS (ss:List Sr) (d:UInt32):Option Nat:=ss.findIdx? λx=>x.dest=d
def nP (ss:List Sr) (k:Int):Option Nat:=ss.findIdx? λx=>x.name=k
def Nd.texts (s:Nd) (d:UInt32):List cP:=(bX s.wait d).getD []
def Nd.stop (s:Nd) (k:Nat):Nd:={s with bu:=s.bu.eraseIdx k}
def Nd.bg (s:Nd) (dest:UInt32) (l:List cP):Nd:=l.foldl (λs t=>s.hand dest t) s
def Nd.cX (s:Nd) (dest:UInt32):Nd:={s with wait:=gq s.wait dest}
def Nd.flush (s:Nd) (dest:UInt32):Nd:=
 let s1:=(s.bg dest (s.texts dest)).cX dest
 match eS s1.bu dest with
 |some k=>s1.stop k
 |none=>s1
def dJ (now:UInt64) (l:List UInt64):Nat:=(l.filter λa=>now<a+1000).length
def Nd.arm (s:Nd) (k:Int) (w:UInt64):Nd:={s with bI:=s.bI++[⟨s.now+w,s.last+1,k⟩],last:=s.last+1}
def Nd.cH (s:Nd) (k:Nat) (b:Bool):Nd:={s with bu:=s.bu.modify k λx=>{x with out:=b}}
def ik (l:List UInt64):List UInt64:=if 5<l.length then l.drop 1 else l
def iL (x:Sr):UInt64:=UInt64.ofInt (80*(x.bK+2)*2 ^ x.aU.toNat)
def Nd.gE (s:Nd) (x:Sr):Nd:=
 let s1:=Nd.note {s with seq:=bS s.seq}
 let s2:={s1 with ids:=s1.ids+1,aP:=ik (s1.aP++[s1.now])}
 let s3:=s2.send 0 ⟨x.bK,1,0,(dG s2.ls x.dest).isNone,s2.ids,x.dest,eJ s2.ls x.dest,s2.self,s2.seq,0,[],[]⟩
 s3.aT ⟨s3.self,s3.ids⟩
def Nd.ask (s:Nd) (k:Nat) (x:Sr):Nd:=
 if s.now<s.cd then((s.cH k false).drop 8).arm x.name 1000 else
 if 5<=dJ s.now s.aP then((s.cH k false).drop 9).arm x.name 1000 else
 ((s.cH k true).gE x).arm x.name (iL x)
def Sr.iN (x:Sr):Option Sr:=
 if x.bK<5 then some {x with bK:=x.bK+2}else
 if x.bK<8 then some {x with bK:=8}else
 if x.aU<2 then some {x with aU:=x.aU+1}else none
def Nd.dy (s:Nd) (n:Nat) (k:Int):Nd:={s with out:={s.out with dropped:=s.out.dropped++List.replicate n k}}
def Nd.again (s:Nd) (k:Nat) (x:Sr):Nd:=
 match bR s.ls x.dest s.now with
 |some _=>s.flush x.dest
 |none=>if x.out=true then match x.iN with
  |some y=>Nd.ask {s with bu:=s.bu.set k y} k y
  |none=>((s.dy (s.texts x.dest).length 5).cX x.dest).stop k
  else s.ask k x
def Nd.rep (s:Nd) (src:UInt32) (p:Pk):Nd:=
 if p.dest=s.self then s.drop 1 else
 let u:=dI s.self s.ls (Ln.bj p.dest p.ak (xp p) src (s.now+p.bD.toUInt64))
 let s1:={s with ls:=u.2}
 if u.1=4 then s1.drop 2 else
 if p.from_=s1.self then
  let s2:=if(bR s1.ls p.dest s1.now).isSome then s1.flush p.dest else s1
  if u.1=3 then s2.drop 7 else s2
 else match bR s1.ls p.from_ s1.now with
 |none=>if p.bK=1 then s1.drop 4 else s1.drop 3
 |some b=>if p.bK=1 then s1.drop 4 else {s1.send b.next {p with bK:=p.bK - 1,aH:=xp p}with ls:=iY (gF (gF s1.ls p.dest b.next) p.from_ src) p.from_ s1.ir}
def Nd.handle (s:Nd) (src:UInt32) (p:Pk):Nd:=
 if p.kind=1 then s.qd src p else if p.kind=2 then s.rep src p else if p.kind=3 then s.xC src p else s.ov src p
def Nd.mb (s:Nd) (now:UInt64) (src:UInt32) (f:cP):Nd:=match Pk.dec f with
 |none=>s.gQ now src f
 |some p=>if src=0\/src=s.self\/now<s.cd then s.gQ now src f else s.handle src p
def Nd.eC (s:Nd) (dest:UInt32):Nd:={s with names:=s.names+1,bu:=s.bu++[⟨dest,1,0,false,s.names+1⟩]}
def Nd.ea (s:Nd) (dest:UInt32) (text:cP):Nd:=
 if(bR s.ls dest s.now).isSome then s.hand dest text else
 let s1:=if(s.texts dest).length=4 then Nd.drop {s with wait:=bY s.wait dest ((s.texts dest).drop 1)} 6 else s
 let s2:={s1 with wait:=bY s1.wait dest (s1.texts dest++[text])}
 match eS s2.bu dest with
 |some _=>s2
 |none=>Nd.ask (s2.eC dest) s2.bu.length ⟨dest,1,0,false,s2.names+1⟩
def Nd.step (s:Nd) (now:UInt64):Option Nd:=match gN s.bI now s.bI.length with
 |none=>none
 |some i=>
  let s1:={s with bI:=s.bI.eraseIdx i}
  match nP s1.bu (cJ s.bI i).km with
  |some k=>match s1.bu[k]? with
   |some x=>some (s1.again k x)
   |none=>some s1
  |none=>some s1
def Nd.gT:Nat->Nd->UInt64->Nd
 |0,s,_=>s
 |f+1,s,now=>match s.step now with
  |some t=>t.gT f now
  |none=>s
open Go.RowKit
theorem KV (empty x y w):(Instr.checkKey empty 10000 269 (.agg #[.int .u32 x,.int .u32 y])).run ucC w= .ok () w:=by
 have u4:=Tryz.underlying26;have hS:=Tryz.underlying269;exact pbB
theorem PD (x y x' y' w):
 (Op.equal 269 (.agg #[.int .u32 x,.int .u32 y]) (.agg #[.int .u32 x',.int .u32 y'])).run ucC w= .ok (x==x'&&y==y') w:=by
 have u4:=Tryz.underlying26
 have hS:Tryz.prog.underlying 269=some (.struct (Tryz.prog.fieldsOf 269)):=by kernel_rfl
 have hp:Tryz.prog.stoodInHeld 269=false:=by kernel_rfl
 rw[show Op.equal 269=Op.equalIn (9999+1) 269 from rfl,run_equalIn_agg w 9999 269 _ _ hS hp]
 simp only[Program.fieldsOf,Tryz.underlying269]
 by_cases h1:x=x'<;>by_cases h2:y=y'<;>go_simp
instance:ou ucC 269 Bt:=Cr (fs:=Tryz.prog.fieldsOf 269) (by kernel_rfl) (λ_ a b w=>by
 have h:=PD (a.src.toNat:Int) (a.id.toNat:Int) (b.src.toNat:Int) (b.id.toNat:Int) w;have e:(((a.src.toNat:Int)==(b.src.toNat:Int))&&((a.id.toNat:Int)==(b.id.toNat:Int)))=decide (a=b):=by
  rw[YX];simp only[Ps,ubS,ual];constructor
  ·intro ⟨h1,h2⟩;have e1:a.src=b.src:=HL.1 (by omega);have e2:a.id=b.id:=HL.1 (by omega);cases a;cases b;simp_all
  ·rintro rfl;exact⟨rfl,rfl⟩
 rw[e]at h;exact h) (λempty k w=>KV empty _ _ w) (λk=>by
 show Instr.sameBits (9999+1) (.agg #[u32 k.src,u32 k.id]) (.agg #[u32 k.src,u32 k.id])=true;simp[Instr.sameBits,u32])
instance (v1 v2:Value) (a b:UInt32) [h1:zag v1 a] [h2:zag v2 b]:zaF Bt (.agg #[v1,v2]) ⟨a,b⟩:=⟨by rw[h1.eq,h2.eq];rfl⟩
instance (k:Rq):zaF Bt (.agg (sE k).toArray) k:=⟨rfl⟩
theorem Spec.WE {P w0 f args pre α res gn s} {h:α->NH} (hs:Spec P w0 f args pre res (λx=>bG gn s (h x))):Spec P w0 f args pre res (λ_=>eD gn s):=λG w hw=>(hs G w hw).mono λe w' ⟨x,he,hx⟩=>⟨x,he,(aq.nod (h x) (aq.refl _)).sat hx⟩
theorem Spec.Vo {P:Program} {w0:World} {f:FuncId} {args:List Value} {pre:af} {α:Type} {res:α->Value} {gn:Nat} {s:Nd} {h:α->NH} {X:α->af} (hs:Spec P w0 f args pre res (λx=>bG gn s (h x)*X x)):Spec P w0 f args pre res (λx=>eD gn s*X x):=λG w hw=>(hs G w hw).mono λe w' ⟨x,he,hx⟩=>⟨x,he,by
 have h1:=(aq.nod (g:=gn) (s:=s) (F:=X x*G) (h x) (aq.of_eq (ad _ _ _))).sat hx
 exact h1.cast (ad _ _ _).symm⟩
structure Nd.Fit (s:Nd) (k:Nat):Prop where
 aJ:s.out.aJ.length+k<=800000
 cj:s.out.cj.length+k<=800000
 dropped:s.out.dropped.length+k<=800000
 aI:s.aI.length+9*k<=400000
 ay:s.out.ay.length+120*k<=800000
theorem Nd.Fit.le {s:Nd} {k m} (h:s.Fit k) (hm:m<=k):s.Fit m:=⟨by have:=h.aJ;omega,by have:=h.cj;omega,by have:=h.dropped;omega,by have:=h.aI;omega,by have:=h.ay;omega⟩
theorem Nd.Fit.send {s:Nd} {k} (h:s.Fit (k+1)) (to p):(s.send to p).Fit k:=by
 obtain⟨a,b,c,d,e⟩:=h;constructor<;>simp only[Nd.send,pU,Pr,HM]<;>omega
theorem Nd.Fit.drop {s:Nd} {k} (h:s.Fit (k+1)) (r):(s.drop r).Fit k:=by
 obtain⟨a,b,c,d,e⟩:=h;constructor<;>simp only[Nd.drop,pU,Pr,HM]<;>omega
theorem Nd.Fit.ls {s:Nd} {k} (h:s.Fit k) (l):Nd.Fit {s with ls:=l} k:=⟨h.aJ,h.cj,h.dropped,h.aI,h.ay⟩
variable (w0:World)
theorem kf (gn) (s:Nd) (h k) (hf:s.Fit 1):Spec ucC w0 66 [ptr gn 0,.int .i64 k] (bG gn s h) (λ_:Value=> .tuple #[]) (λ_=>eD gn (s.drop k)):=(iE w0 gn s h k (by have:=hf.dropped;omega)).WE
theorem Bi (gn:Nat) (s:Nd) (h:NH) (to:UInt32) (p:Pk) (hp:p.Ok) (v:Value) (hv:v.oneCell'=true) (X:af) (hX:eX w0 X v (UInt32×UInt32) 2 bB p.lost) (hf:s.Fit 1):Spec ucC w0 117 [ptr gn 0,u32 to,p.val v] (bG gn s h*X) (λ_:Value=> .tuple #[]) (λ_=>eD gn (s.send to p)*X):=(lW w0 gn s h to p hp v hv X (hX:=hX) (by have:=hf.aJ;omega)).Vo
theorem MO (gn:Nat) (s:Nd) (h:NH) (to:UInt32) (p:Pk) (hp:p.Ok) (hl:p.lost=[]) (hf:s.Fit 1):Spec ucC w0 117 [ptr gn 0,u32 to,p.val (.slice none 0 0)] (bG gn s h) (λ_:Value=> .tuple #[]) (λ_=>eD gn (s.send to p)):=by
 have:=Bi w0 gn s h to p hp (.slice none 0 0) rfl emp (by rw[hl];exact mw _ _ _) hf;simpa only[b5]using this
theorem Gm (gn:Nat) (s:Nd) (h:NH) (to:UInt32) (p:Pk) (hp:p.Ok) (hl:p.lost=[]) (hf:s.Fit 1):Spec ucC w0 117 [ptr gn 0,u32 to,p.val (.slice none 0 0)] (bG gn s h) (λ_:Value=> .tuple #[]) (λvf=>bG gn (s.send to p) {h with vf:=vf}):=by
 have:=lW w0 gn s h to p hp (.slice none 0 0) rfl emp (hX:=by rw[hl];exact mw _ _ _) (by have:=hf.aJ;omega);simpa only[b5]using this
theorem PK (gn) (s:Nd) (h to dest seq) (hf:s.Fit 1):Spec ucC w0 68 [ptr gn 0,u32 to,u32 dest,u32 seq] (bG gn s h) (λ_:Value=> .tuple #[]) (λ_=>eD gn (s.tell to dest seq)):=(zV w0 gn s h to dest seq (by have:=hf.aJ;omega)).WE
attribute [local irreducible] WS LS OpQ y6 cn cv Spec bA aK
theorem pQ (gn) (s:Nd) (h):Spec ucC w0 172 [ptr gn 0] (aK gn 159 (b7 1 s h s.out)) (λ_:Unit=>u64 s.ir) (λ_=>aK gn 159 (b7 1 s h s.out)):=by
 refine eZ Tryz.func172 Tryz.ntmps172 λG=> ?_;simp only[aN,b7,Nd.ir];repeat' (first|intro K hK|refine ax ?_|refine zw1 ?_)
 exact aC (.inl rfl) rfl rfl ⟨(),rfl,ah⟩
theorem uu (gn:Nat) (s:Nd) (h:NH) (p:Pk) (hl:p.lost=[]) (hp:cM p.aH) (hy:p.ar.length<=100) (ok:aW s.ls) (hf:s.Fit 1):Spec ucC w0 174 [ptr gn 0,p.val (.slice none 0 0)] (bG gn s h) (λ_:Value=> .tuple #[]) (λ_=>eD gn (s.answer p)):=by
 have p1:=find_spec w0 h.tb s.self s.ls ok p.from_ s.now;have p2:=kf w0 gn s h 3 hf;have p3:=λto=>MO w0 gn s h to {p with bK:=8,kind:=2} ⟨by simp[cM],by simp[cM],hp,by simp[hl],by simp only;omega⟩ hl hf;refine eZ Tryz.func174 Tryz.ntmps174 λG=> ?_;simp only[bG,aY,b7,cw,ba,Pk.val,Pk.cells]at p1 p2 p3 ⊢;simp only[aN];cases hx:bR s.ls p.from_ s.now with
 |none=>
  have es:s.answer p=s.drop 3:=by unfold Nd.answer;rw[hx]
  simp only[hx,fX,fW]at p1;repeat' (first|refine aE (id:=2) 0 3 (.range 17) ?_|refine ae (id:=2) (.range 17) 10 [3,5,9] ?_|intro hc|refine xyZ ?_|refine aF ?_ ?_|refine zw3 λg=> ?_|refine bT λg=> ?_|refine bQ λg=> ?_|refine zgu λg=> ?_|refine cZ p1 λx1=> ?_|refine cZ p2 λx2=> ?_)
  exact aj (.inr rfl) rfl ⟨.tuple #[],rfl,by rw[es];exact ah⟩
 |some b=>
  have es:s.answer p=s.send b.next {p with bK:=8,kind:=2}:=by unfold Nd.answer;rw[hx]
  simp only[hx,fX,fW,bM]at p1;repeat' (first|refine aE (id:=2) 0 3 (.range 17) ?_|refine ae (id:=2) (.range 17) 10 [3,5,9] ?_|intro hc|refine yZ ?_|refine aF ?_ ?_|refine zw3 λg=> ?_|refine cZ p1 λx1=> ?_|(refine ai (aa iI rfl (p3 _) iI) rfl ?_;intro x2))
  exact aj (.inr rfl) rfl ⟨.tuple #[],rfl,by rw[es];exact ah⟩
theorem zz (gn) (s:Nd) (h) (l:List (UInt32×UInt32)) (hl:l.length<=1000) (v) (hf:s.Fit 1):Spec ucC w0 179 [ptr gn 0,v] (bG gn s h*rows 180 2 bB v l) (λ_:Value=> .tuple #[]) (λ_=>eD gn (s.lost l)):=by
 have p1:=λA c=>Bi w0 gn s h 0 (Pk.gI l) (Pk.pG l (by omega)) (.slice A l.length c) rfl (rows 180 2 bB (.slice A l.length c) l) (fy _ _ _ _ _) hf;refine eZ Tryz.func179 Tryz.ntmps179 λG=> ?_;refine jl v iI λA c hv=> ?_;subst hv;simp only[bG,aY,b7,cw,ba,Pk.val,Pk.cells,Pk.gI]at p1 ⊢;simp only[aN];by_cases h0:0<l.length
 ·have es:s.lost l=s.send 0 (Pk.gI l):=by unfold Nd.lost;rw[jF h0]
  repeat' (first|intro hc|refine xyZ ?_|refine aF ?_ ?_|(refine ai (aa iI rfl (p1 _ _) iI) rfl ?_;intro x2))
  exact aj (.inr rfl) rfl ⟨.tuple #[],rfl,by rw[es];unfold Pk.gI;exact ah⟩
 ·have es:s.lost l=s:=by unfold Nd.lost;rw[eQ h0]
  repeat' (first|intro hc|refine xyZ ?_|refine aF ?_ ?_)
  exact aj (.inr rfl) rfl ⟨.tuple #[],rfl,by rw[es];refine aq.nod h ?_;simp only[bG,aY,b7,cw,ba];exact ah⟩
theorem zl (gn:Nat) (s:Nd) (h:NH) (dest:UInt32) (text:cP) (ht:text.length<=100) (ok:aW s.ls) (hf:s.Fit 1):Spec ucC w0 145 [ptr gn 0,u32 dest,aZ text] (bG gn s h) (λ_:Value=> .bool (bR s.ls dest s.now).isSome) (λvf=>bG gn (s.hand dest text) {h with vf:=vf}):=by
 have p1:=find_spec w0 h.tb s.self s.ls ok dest s.now;refine eZ Tryz.func145 Tryz.ntmps145 λG=> ?_;cases hx:bR s.ls dest s.now with
 |none=>
  have es:s.hand dest text=s:=by unfold Nd.hand;rw[hx]
  rw[es];simp only[bG,aY,b7,cw,ba]at p1 ⊢;simp only[aN];simp only[hx,fX,fW]at p1;repeat' (first|refine nA (id:=1) 0 (.range 16) ?_|refine ae (id:=1) (.range 16) 9 [3,8] ?_|refine zaN (id:=1) 7 0 (.range 16) 14 [] ?_|intro hc|refine xyZ ?_|refine aF ?_ ?_|refine zw3 λg=> ?_|((refine' dP ?zh rfl rfl ?_);(case zh=>exact bo rfl rfl iI iI (by first|rfl|(simp only[uao,uaK, *];rfl)) rfl);intro g)|refine cZ p1 λx1=> ?_)
  exact aC (.inl rfl) rfl rfl ⟨h.vf,rfl,ah⟩
 |some b=>
  obtain⟨s1,iu⟩:∃s1:Nd,s1={s with ff:=s.ff+1}:=⟨_,rfl⟩
  obtain⟨s2,fP⟩:∃s2:Nd,s2=s1.send b.next ⟨8,9,0,false,s.ff+1,dest,0,s.self,0,0,[],text⟩:=⟨_,rfl⟩
  have es:s.hand dest text={s2 with ls:=iY s2.ls dest s2.ir}:=by unfold Nd.hand;rw[hx];rw[fP,iu];rfl
  have p2:=Gm w0 gn s1 h b.next ⟨8,9,0,false,s.ff+1,dest,0,s.self,0,0,[],text⟩ ⟨by simp[cM],by simp[cM],by simp[cM],by simp,by simp only;omega⟩ rfl (by rw[iu];exact⟨hf.aJ,hf.cj,hf.dropped,hf.aI,hf.ay⟩);have p3:=λvf=>pQ w0 gn s2 {h with vf:=vf};have p4:=pe w0 h.tb s2.self s2.ls dest s2.ir;rw[<-fP]at p2;rw[iu]at p2;rw[es];simp only[bG,aY,b7,cw,ba,Pk.val,Pk.cells]at p1 p2 p3 p4 ⊢;simp only[aN];simp only[hx,fX,fW,bM]at p1;repeat' (first|refine nA (id:=1) 0 (.range 16) ?_|refine ae (id:=1) (.range 16) 9 [3,8] ?_|refine zaN (id:=1) 7 0 (.range 16) 14 [] ?_|refine ae (id:=5) (.range 15) 14 [2,6,11] ?_|refine ae (id:=6) (.range 8) 7 [3] ?_|intro hc|refine yZ ?_|refine aF ?_ ?_|refine zw3 λg=> ?_|refine zw1 ?_|refine cZ p1 λx1=> ?_|(refine aD (aa iI rfl p2 iI) rfl rfl rfl ?_;intro vf;replace p3:=p3 vf)|(refine oC iI rfl p3 iI rfl ?_)|refine cZ p4 λx4=> ?_)
  exact aC (.inl rfl) rfl rfl ⟨vf,rfl,ah⟩
end
section
open Go.RowKit
structure Pk.Read (p:Pk):Prop where
 bK:1<=p.bK/\p.bK<=255
 kind:cM p.kind
 aH:0<=p.aH/\p.aH<=255
 lost:p.lost.length<=1000
 ar:p.ar.length<=100
theorem Nd.j2 (s:Nd) (r):(s.aT r).ls=s.ls/\(s.aT r).self=s.self/\(s.aT r).now=s.now/\(s.aT r).out=s.out/\(s.aT r).aI=s.aI:=by
 unfold Nd.aT;dsimp only;split<;>exact⟨rfl,rfl,rfl,rfl,rfl⟩
theorem Nd.Fit.aT {s:Nd} {k} (h:s.Fit k) (r):(s.aT r).Fit k:=by
 obtain⟨_,_,_,e,f⟩:=s.j2 r;exact⟨by rw[e];exact h.aJ,by rw[e];exact h.cj,by rw[e];exact h.dropped,by rw[f];exact h.aI,by rw[e];exact h.ay⟩
theorem pT (self ls x):(dI self ls x).1=0\/(dI self ls x).1=2\/(dI self ls x).1=3\/(dI self ls x).1=4:=by
 unfold dI;repeat' split
 all_goals simp
theorem zy {ls d now x} (h:bR ls d now=some x):x∈ls:=by
 unfold bR dG at h;cases hf:cN ls d with
 |none=>rw[hf]at h;cases h
 |some i=>
  obtain⟨l,hl,_⟩:=dw hf;rw[hf]at h;simp only[G6,hl]at h;split at h
  ·cases h;exact jq hl
  ·cases h
end
end Go.Proofs.YtapoehkdnglahabGreat

/- A part. -/
import Derived.Test.YtapoehkdnglahabGreatMxi
import Derived.Test.YtapoehkdnglahabGreatM7
import Derived.Test.YtapoehkdnglahabGreatM8
set_option linter.all false
namespace Go.Proofs.YtapoehkdnglahabGreat
open Go.RowKit
variable (w0:World)
theorem nd {α:Type} [DecidableEq α]:∀(l m:List α),l.Nodup->(∀x∈l,x∈m)->l.length<=m.length
 |[],_,_,_=>uau _
 |x::l,m,h,hs=>by
  have h1:=uaA.1 h;have h2:=nd l (m.erase x) h1.2 λy hy=>(List.mem_erase_of_ne (λe=>h1.1 (by rw[<-e];exact hy))).2 (hs y (by simp[hy]));rw[List.length_erase_of_mem (hs x (by simp))]at h2;have:0<m.length:=uci (hs x (by simp));simp only[Pr];omega
theorem Twin.QG {n i0:Nat} {s:Nd} {d:RD} (h:Twin ⟨n,none,i0⟩ s d) (so:l6 s):s.bu.length<=s.bI.length:=by
 have:=nd (s.bu.map (·.name)) (s.bI.map (·.km)) so.names λx hx=>by
  obtain⟨y,hy,rfl⟩:=HC.1 hx;obtain⟨i,hi,e⟩:=List.getElem_of_mem hy;have h1:s.bu[i]? =some y:=by rw[aX hi,e]
  obtain⟨z,hz⟩:∃z,d.search[i]? =some z:=⟨_,aX (by rw[h.hP];exact hi)⟩
  obtain⟨due,set,_,h2|h2⟩:=h.search i y z h1 hz
  ·cases h2
  ·exact HC.2 ⟨_,h2,rfl⟩
 simpa using this
theorem Spec.QG {P:Program} {w0:World} {f:FuncId} {args:List Value} {n i0 g:Nat} {s:Nd} {c:Nat} (hr:s.Rest c) {α:Type} {res:α->Value} {post:α->af} (h:s.bu.length<=c->Spec P w0 f args (j9 ⟨n,none,i0⟩ g s) res post):Spec P w0 f args (j9 ⟨n,none,i0⟩ g s) res post:=λG w hs=>by
 have sZ:=hs;unfold j9 at sZ;obtain⟨x,fP⟩:=sZ.ex;obtain⟨tw,_⟩:=(fP.cast (ad _ _ _)).pure;have h1:=tw.QG hr.inv.sr;have h2:=hr.bI;exact h (by omega) G w hs
theorem zf {n n' i0 O9 g s} (hn:n<=n') (hi:i0<=O9):aq (j9 ⟨n,none,i0⟩ g s) (j9 ⟨n',none,O9⟩ g s):=by
 unfold j9;refine aq.Q0 λx=>aq.Nz λtw=> ?_;have lD:=tw.mono (W':=⟨n',none,O9⟩) rfl hn hi;have h:=aq.mX (p:=λx:RD×dS=>pure' (Twin ⟨n',none,O9⟩ s x.1)*(aK g 195 (bN s x.1 x.2)*(rows 28 3 Rec.cells x.1.vr s.aI*(rows 28 3 Rec.cells x.1.vh x.1.held*(ct x.1.tb s.self s.ls*bc x.1))))) (F:=emp) x (aq.of_eq b5.symm);rw[b5]at h;refine aq.trans ?_ h;have h3:=aq.ji (F:=aK g 195 (bN s x.1 x.2)*(rows 28 3 Rec.cells x.1.vr s.aI*(rows 28 3 Rec.cells x.1.vh x.1.held*(ct x.1.tb s.self s.ls*bc x.1)))) lD (aq.refl _);exact h3
theorem oN {n n' i0 O9 g s} (hn:n<=n') (hi:i0<=O9) (F):aq (j9 ⟨n,none,i0⟩ g s*F) (j9 ⟨n',none,O9⟩ g s*F):=aq.star (zf hn hi) (aq.refl F)
theorem NK (n i0 gn) (s:Nd) (now:UInt64) (src) (f:cP) {c} (hr:s.Rest c) (hc:c<=8500) (hn:s.now.toNat<=now.toNat) (zp:f.length<=100000) (hW:n<=80000):Spec ucC w0 78 [ptr gn 0,u64 now,u32 src,aZ f] (j9 ⟨n,none,i0⟩ gn s) (λv:Value×Value×Value=>fp (s.iX now src f).out v) (λv=>j9 ⟨n+1,none,i0+5⟩ gn (s.iX now src f)*r5 (s.iX now src f).out v):=
 Spec.QG hr λhs=>(Ie w0 ⟨n,none,i0⟩ gn s now src f hr hn zp (by show n<=100000;omega) (by omega)).zbB (aq.refl _) λv=>⟨v,rfl,oN (Xn n) (uL _) _⟩
theorem PF (n i0 gn) (s:Nd) (now:UInt64) (dst t) {c} (hr:s.Rest c) (hc:c<=8500) (vT:now.toNat<=4611686018427387904) (hn:s.now.toNat<=now.toNat) (hW:n<=80000) (uY:i0<=800000) (he:s.gA dst t=0):Spec ucC w0 82 [ptr gn 0,u64 now,u32 dst,aZ t] (j9 ⟨n,none,i0⟩ gn s) (λv:Value×Value×Value=> .tuple #[fp (s.iG now dst t).out v,.int .i64 0]) (λv=>j9 ⟨n+1,none,i0+5⟩ gn (s.iG now dst t)*r5 (s.iG now dst t).out v):=
 Spec.QG hr λhs=>De w0 n i0 gn s now dst t hr hc vT hn (by omega) uY (by omega) he
theorem PH (n i0 gn) (s:Nd) (now:UInt64) {c} (hr:s.Rest c) (hc:c<=8500) (vT:now.toNat<=4611686018427387904) (hn:s.now.toNat<=now.toNat) (hW:n<=80000) (uY:i0<=800000):Spec ucC w0 49 [ptr gn 0,u64 now] (j9 ⟨n,none,i0⟩ gn s) (λv:Value×Value×Value=>fp (s.iH now).out v) (λv=>j9 ⟨n+1,none,i0+5⟩ gn (s.iH now)*r5 (s.iH now).out v):=
 Spec.QG hr λhs=>(Fe w0 n i0 gn s now hr hc vT hn (by omega) uY (by omega)).zbB (aq.refl _) λv=>⟨v,rfl,oN (Xn n) (uL _) _⟩
end Go.Proofs.YtapoehkdnglahabGreat

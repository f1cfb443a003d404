/- A part of what Nodes needs. -/
import Derived.Below
import Derived.WalkKit
import Derived.WalkSmall
import Derived.Deep.Draws
import Derived.Lib.Hide
import Derived.Deep.QuietTactic
import Derived.BigQuiet
import Derived.WalkLawsBesides
import Derived.WalkSpells
import Derived.Laws.AppendOwn
import Derived.Laws.Tables
import Derived.Laws.CopyRow
import Derived.OwnWalk
import GoSem.Core.Value
import Derived.Test.YtapoehkdnglahabGreatRows
import Derived.ProofKit
import Derived.OpenShut
import Derived.Deep.Slices
import Derived.Deep.Fields
import Derived.OrdersHeld
import Derived.Defers
import Derived.TacticsIn
import Derived.OrdersIn
import Derived.IntWalk
import Derived.Great.BuildSlice
import Derived.Laws.BytesString
import Derived.Laws.IdiomStrings
import Derived.Laws.Strings
import Derived.MapKept
import Derived.Laws.MakeOwn
import Derived.Test.YtapoehkdnglahabGreatProg
import Derived.KernelRfl
import Derived.Laws.Pointers
import Derived.Shelf.SlSortCmp.WholeK
import Derived.RangeFuncRecord
import Derived.RangeFuncSeq
import Derived.Maps.RangeRun
import Derived.Laws.BitsAllLaws
import Derived.Laws.Entries
import Derived.RecoverIn
import Derived.Laws.Build
import Derived.WideLaws
import Derived.Shelf.SlSortCmp.NoneTotal
import Derived.Conc.MuLone
set_option linter.unusedVariables false
set_option linter.unusedSimpArgs false
set_option linter.unusedSectionVars false
namespace Go.Proofs.YtapoehkdnglahabGreat
theorem aG {p:Prop} (h:False:=by first|contradiction|omega):p:=h.elim
theorem cG {p:Prop} (h:p:=by repeat (first|exact trivial|refine⟨rfl,?_⟩)):p:=h
theorem cS:(∀(p:Prop) [Decidable p],(decide p=true)=p)∧(∀(p:Prop) [Decidable p],(decide p=false)=¬p)∧(∀a b:Bool,((!a)=b)=(a= !b))∧((!true)=false)∧((!false)=true)∧(∀a b:Bool,((a&&b)=true)=(a=true∧b=true))∧(∀a b:Bool,((a||b)=true)=(a=true∨b=true))∧(∀(α:Type) [BEq α] [LawfulBEq α] (a b:α),((a !=b)=true)=(a≠b))∧(∀(α:Type) [BEq α] [LawfulBEq α] (a b:α),((a==b)=true)=(a=b))∧(∀(α:Type) (a b:α),(a≠b)=¬(a=b))∧(∀p:Prop,(¬¬p)=p):=⟨fun p _=>by simp,fun p _=>by simp,fun a b=>by cases a<;>cases b<;>simp,rfl,rfl,fun a b=>by cases a<;>cases b<;>simp,fun a b=>by cases a<;>cases b<;>simp,fun α _ _ a b=>by simp,fun α _ _ a b=>by simp,fun α a b=>rfl,fun p=>by simp⟩
theorem ah {p:Prop} (h:p:=by((try simp only[ad,aB,bl]);(repeat' (first|exact aq.last|refine aq.take ?_|refine aq.Pu ?_|refine aq.Dr (by first|rfl|assumption|(simp;done)) ?_|exact aq.refl _)))):p:=h
theorem ax {p q:Prop} (hq:q) (h:q→p:=by(first|(with_reducible (first|exact vZ|exact Gv|exact rH|exact BS|exact rI rfl|exact Bl|exact wO|exact Gy (by assumption)))|exact pt|exact z7|(show _→LS _ _ _ _ _ (⟨_,_,_,_,_,some _⟩::_) _;first|exact IW rfl rfl iI rfl|exact IT rfl rfl iI rfl|exact IX rfl rfl rfl)|exact LD|exact LI|exact LG|exact LF|exact LH|exact LJ rfl rfl rfl rfl|exact GB rfl|exact By rfl rfl|exact oG|exact FD|exact DI|exact FC|exact I9|(show _→WS _ _ _ (.cond _ _ _) _ _;first|exact wy rfl iI|exact BH rfl iI|exact wx rfl (by assumption)|exact wu rfl (by assumption)))):p:=h hq
theorem aF {p q r:Prop} (hq:q) (hr:r) (h:q→r→p:=by(first|(show _→_→LS _ _ _ _ _ (⟨_,_,_,_,_,some _⟩::_) _;first|exact IV rfl rfl rfl|exact Qr rfl)|(show _→_→WS _ _ _ (.cond _ _ _) _ _;exact pr rfl))):p:=h hq hr
theorem az {p q:Prop} (hq:q) (h:q→p:=by((first|refine' LQ ?zh rfl|refine' bP rfl rfl rfl ?zh|refine' bk rfl rfl ?zh|refine' II rfl rfl rfl rfl ?zh|refine' gM rfl rfl rfl ?zh);case zh=>intro F';first|exact bC rfl|exact kC rfl|exact db rfl|exact bq rfl iI rfl|exact cm rfl iI iI rfl|exact wj rfl rfl (by omega)|exact I3 rfl rfl (by omega)|exact GI rfl rfl|exact BE rfl iI rfl|exact BD rfl iI rfl|exact Tq rfl iI|exact kZ rfl iI iI rfl|exact LP iI iI rfl rfl|exact M4 rfl iI|exact NX rfl iI|exact vH rfl rfl iI iI iI iI (by first|assumption|omega|(simp[al]<;>omega))|exact eG rfl iI iI rfl (by first|assumption|omega|(simp[al]<;>omega))|exact lg rfl iI iI iI (by assumption) rfl|exact ja rfl iI iI iI (by assumption)|exact I1 rfl iI iI|exact NW rfl iI iI|exact NY rfl rfl|exact LU rfl rfl iI iI|exact DE rfl rfl|exact I2 rfl rfl (by omega))):p:=h hq
theorem aX {p q:Prop} (hq:q) (h:q→p:=by((first|refine' LQ ?zh rfl|refine' bP rfl rfl rfl ?zh|refine' bk rfl rfl ?zh|refine' II rfl rfl rfl rfl ?zh|refine' gM rfl rfl rfl ?zh);case zh=>intro F';first|exact bp rfl rfl iI (by first|assumption|omega|decide)|exact bH rfl rfl iI (by first|assumption|omega|decide)|exact fC rfl rfl iI (by first|assumption|omega|decide)|exact du rfl rfl iI (by first|assumption|omega|decide))):p:=h hq
theorem bT {α:Type} {p:Prop} {q:α→Prop} (hq:∀g,q g) (h:(∀g,q g)→p:=by((first|refine' ai ?zh rfl|refine' aD ?zh rfl rfl rfl);(case zh=>first|exact ph iI|exact rj rfl|exact NS rfl iI))):p:=h hq
theorem bQ {α:Type} {p:Prop} {q:α→Prop} (hq:∀g,q g) (h:(∀g,q g)→p:=by((first|refine' bL ?zh|refine' dP ?zh rfl rfl);(case zh=>first|exact IN rfl rfl iI iI iI rfl|exact GG rfl rfl iI iI iI rfl))):p:=h hq
section
open Go.RowKit
@[go_sem] theorem World.M7 (w:World) (n:Nat) (o:Obj):(w.drewN n).alloc o=(w.alloc o).drewN n:=rfl
@[go_sem] theorem World.LB (w:World) (n:Nat) (a:Addr) (v:Value):(w.drewN n).setCell a v=(w.setCell a v).drewN n:=rfl
abbrev Part:=Nat→Option Obj
def Part.tB (a b:Part):Prop:=∀k,a k=none∨b k=none
def Part.join (a b:Part):Part:=fun k=>match a k with|some o=>some o|none=>b k
structure af where
 on:Part→Prop
theorem af.ext' {p q:af} (h:∀x,p.on x↔q.on x):p=q:=by
 cases p;cases q;congr 1;funext x;exact propext (h x)
def star (p q:af):af:=⟨fun h=>∃a b,Part.tB a b∧h=a.join b∧p.on a∧q.on b⟩
instance:Mul af:=⟨star⟩
def emp:af:=⟨fun h=>∀k,h k=none⟩
def pM (b:Nat) (o:Obj):af:=⟨fun h=>h=fun k=>if k=b then some o else none⟩
def pure' (φ:Prop):af:=⟨fun h=>φ∧∀k,h k=none⟩
def hex {α:Type} (P:α→af):af:=⟨fun h=>∃x,(P x).on h⟩
def yn (w0:World):af:=⟨fun h=>h=fun k=>w0.heap[k]?⟩
theorem Part.join_comm {a b:Part} (h:Part.tB a b):a.join b=b.join a:=by
 funext k
 rcases h k with h|h<;>simp only[Part.join,h]
 ·cases b k<;>rfl
 ·cases a k<;>rfl
theorem Part.tB.symm {a b:Part} (h:Part.tB a b):Part.tB b a:=fun k=>(h k).symm
theorem Part.join_assoc (a b c:Part):(a.join b).join c=a.join (b.join c):=by
 funext k
 simp only[Part.join]
 cases a k<;>rfl
theorem Part.pA {a b c:Part}:Part.tB (a.join b) c↔Part.tB a c∧Part.tB b c:=by
 constructor
 ·intro h
  constructor<;>intro k<;>have:=h k<;>simp only[Part.join]at this<;>cases ha:a k<;>simp_all
 ·rintro⟨h1,h2⟩ k
  have h1:=h1 k;have h2:=h2 k
  simp only[Part.join]
  cases ha:a k<;>simp_all
theorem Part.wW {a b c:Part}:Part.tB a (b.join c)↔Part.tB a b∧Part.tB a c:=by
 constructor
 ·intro h
  have:=Part.pA.1 h.symm
  exact⟨this.1.symm,this.2.symm⟩
 ·rintro⟨h1,h2⟩
  exact(Part.pA.2 ⟨h1.symm,h2.symm⟩).symm
theorem nt (p q:af):p*q=q*p:=af.ext' fun h=>by
 constructor
 all_goals
  rintro⟨a,b,hd,rfl,hp,hq⟩
  exact⟨b,a,hd.symm,Part.join_comm hd,hq,hp⟩
theorem ad (p q r:af):p*q*r=p*(q*r):=af.ext' fun h=>by
 constructor
 ·rintro⟨x,c,hd,rfl,⟨a,b,rU,rfl,hp,hq⟩,hr⟩
  obtain⟨h1,h2⟩:=Part.pA.1 hd
  exact⟨a,b.join c,Part.wW.2 ⟨rU,h1⟩,Part.join_assoc a b c,hp,b,c,h2,rfl,hq,hr⟩
 ·rintro⟨a,x,hd,rfl,hp,b,c,rU,rfl,hq,hr⟩
  obtain⟨h1,h2⟩:=Part.wW.1 hd
  exact⟨a.join b,c,Part.pA.2 ⟨h2,rU⟩,(Part.join_assoc a b c).symm,⟨a,b,h1,rfl,hp,hq⟩,hr⟩
instance:Std.Commutative (α:=af) (·*·):=⟨nt⟩
instance:Std.Associative (α:=af) (·*·):=⟨ad⟩
theorem aM (p q r:af):p*(q*r)=q*(p*r):=by ac_rfl
structure Sat (w0 w:World) (p:af):Prop where
 os:w.os=w0.os
 tape:w.tape=w0.tape
 output:w.output=w0.output
 heap:∃h:Part,p.on h∧∀k o,h k=some o→w.heap[k]? =some o
variable {w0 w w':World} {p q r F:af}
theorem Sat.mono (h:Sat w0 w p) (UD:∀x,p.on x→q.on x):Sat w0 w q:=
 ⟨h.os,h.tape,h.output,let ⟨x,hx,hk⟩:=h.heap;⟨x,UD x hx,hk⟩⟩
theorem Sat.cast (h:Sat w0 w p) (e:p=q):Sat w0 w q:=e▸h
theorem Sat.drop (h:Sat w0 w (p*q)):Sat w0 w q:=by
 obtain⟨x,⟨a,b,hd,rfl,hp,hq⟩,hk⟩:=h.heap
 refine⟨h.os,h.tape,h.output,b,hq,fun k o ho=>hk k o ?_⟩
 rcases hd k with e|e
 ·simp only[Part.join,e,ho]
 ·rw[e]at ho;cases ho
theorem Sat.Cq (h:Sat w0 w (p*q)):Sat w0 w p:=by
 rw[nt]at h;exact h.drop
theorem Sat.p2 {a b:af} (h:Sat w0 w (a*(b*F))):Sat w0 w (b*(a*F)):=h.cast (aM a b F)
theorem Sat.drew (h:Sat w0 w p):Sat w0 w.drew p:=⟨h.os,h.tape,h.output,h.heap⟩
theorem Sat.ex {α:Type} {P:α→af} (h:Sat w0 w (hex P*F)):∃x,Sat w0 w (P x*F):=by
 obtain⟨x,⟨a,b,hd,rfl,⟨y,hp⟩,hq⟩,hk⟩:=h.heap
 exact⟨y,h.os,h.tape,h.output,_,⟨a,b,hd,rfl,hp,hq⟩,hk⟩
theorem Sat.M9 {α:Type} {P:α→af} (x:α) (h:Sat w0 w (P x*F)):Sat w0 w (hex P*F):=
 h.mono fun _ ⟨a,b,hd,e,hp,hq⟩=>⟨a,b,hd,e,⟨x,hp⟩,hq⟩
theorem Part.join_none {a b:Part} (h:∀k,a k=none):a.join b=b:=by funext k;simp only[Part.join,h k]
theorem ki {φ:Prop} {h:Part}:(pure' φ*F).on h↔φ∧F.on h:=by
 constructor
 ·rintro⟨a,b,_,rfl,⟨hf,hn⟩,hb⟩
  rw[Part.join_none hn];exact⟨hf,hb⟩
 ·rintro⟨hf,hb⟩
  exact⟨fun _=>none,h,fun _=> .inl rfl,(Part.join_none fun _=>rfl).symm,⟨hf,fun _=>rfl⟩,hb⟩
theorem aB:emp*F=F:=af.ext' fun h=>by
 constructor
 ·rintro⟨a,b,_,rfl,hn,hb⟩
  rw[Part.join_none hn];exact hb
 ·intro hb
  exact⟨fun _=>none,h,fun _=> .inl rfl,(Part.join_none fun _=>rfl).symm,fun _=>rfl,hb⟩
theorem Sat.pure {φ:Prop} (h:Sat w0 w (pure' φ*F)):φ∧Sat w0 w F:=by
 obtain⟨x,hx,hk⟩:=h.heap
 obtain⟨h1,h2⟩:=ki.1 hx
 exact⟨h1,h.os,h.tape,h.output,x,h2,hk⟩
theorem Sat.MG {φ:Prop} (hf:φ) (h:Sat w0 w F):Sat w0 w (pure' φ*F):=h.mono fun _ hx=>ki.2 ⟨hf,hx⟩
theorem Sat.at_ {b:Nat} {o:Obj} (h:Sat w0 w (pM b o*F)):w.heap[b]? =some o:=by
 obtain⟨x,⟨a,c,hd,rfl,hp,hq⟩,hk⟩:=h.heap
 have qZ:a=_:=hp
 exact hk b o (by simp[Part.join,qZ])
theorem Sat.lt {b:Nat} {o:Obj} (h:Sat w0 w (pM b o*F)):b<w.heap.size:=by
 have:=h.at_
 rcases Nat.lt_or_ge b w.heap.size with bW|kQ
 ·exact bW
 ·rw[Array.getElem?_eq_none kQ]at this;cases this
theorem Sat.other {b:Nat} {o:Obj} (h:Sat w0 w (pM b o*F)):∃x:Part,F.on x∧x b=none∧∀k u,x k=some u→w.heap[k]? =some u:=by
 obtain⟨x,⟨a,c,hd,rfl,hp,hq⟩,hk⟩:=h.heap
 have qZ:a=_:=hp
 refine⟨c,hq,?_,fun k u hu=>hk k u ?_⟩
 ·rcases hd b with e|e
  ·simp[qZ]at e
  ·exact e
 ·rcases hd k with e|e
  ·simp only[Part.join,e,hu]
  ·rw[e]at hu;cases hu
theorem Sat.put {b:Nat} {o o':Obj} (h:Sat w0 w (pM b o*F)) (hs:w'.os=w.os) (ht:w'.tape=w.tape) (ho:w'.output=w.output)
 (hb:w'.heap[b]? =some o') (hk:∀k,k<w.heap.size→k≠b→w'.heap[k]? =w.heap[k]?):Sat w0 w' (pM b o'*F):=by
 obtain⟨x,hx,S9,Yn⟩:=h.other
 refine⟨hs.trans h.os,ht.trans h.tape,ho.trans h.output,_,⟨fun k=>if k=b then some o' else none,x,fun k=> ?_,rfl,rfl,hx⟩,fun k u hu=> ?_⟩
 ·by_cases e:k=b
  ·subst e;exact .inr S9
  ·simp[e]
 ·simp only[Part.join]at hu
  by_cases e:k=b
  ·subst e;simp at hu;subst hu;exact hb
  ·simp only[e,if_false]at hu
   have:=Yn k u hu
   have bW:k<w.heap.size:=by
    rcases Nat.lt_or_ge k w.heap.size with bW|kQ
    ·exact bW
    ·rw[Array.getElem?_eq_none kQ]at this;cases this
   exact(hk k bW e).trans this
theorem Sat.alloc (h:Sat w0 w F) (o:Obj):Sat w0 (w.alloc o) (pM w.heap.size o*F):=by
 obtain⟨x,hx,hk⟩:=h.heap
 have bW:∀k u,x k=some u→k<w.heap.size:=fun k u hu=>by
  have:=hk k u hu
  rcases Nat.lt_or_ge k w.heap.size with bW|kQ
  ·exact bW
  ·rw[Array.getElem?_eq_none kQ]at this;cases this
 refine⟨h.os,h.tape,h.output,_,⟨fun k=>if k=w.heap.size then some o else none,x,fun k=> ?_,rfl,rfl,hx⟩,fun k u hu=> ?_⟩
 ·by_cases e:k=w.heap.size
  ·subst e
   refine .inr ?_
   cases RF:x w.heap.size with
   |none=>rfl
   |some u=>exact absurd (bW _ _ RF) (Nat.lt_irrefl _)
  ·simp[e]
 ·simp only[Part.join]at hu
  by_cases e:k=w.heap.size
  ·subst e;simp at hu;subst hu;exact heap_alloc_new w o
  ·simp only[e,if_false]at hu
   rw[Below.heap_alloc w o k (bW k u hu)];exact hk k u hu
def Oc (b:Nat) (t:TypeId) (cs:Array Value):af:=pM b (.cells cs t (0,0))
theorem Sat.new (h:Sat w0 w F) (t:TypeId) (cs:Array Value):Sat w0 (w.alloc (.cells cs t)) (Oc w.heap.size t cs*F):=h.alloc _
theorem Sat.cell {b:Nat} {t:TypeId} {cs:Array Value} (h:Sat w0 w (Oc b t cs*F)) (i:Nat):w.cell? ⟨b,i,none⟩=cs[i]? :=by
 have:=Sat.at_ h
 simp[World.cell?,this]
theorem Sat.frozen {b:Nat} {t:TypeId} {cs:Array Value} (h:Sat w0 w (Oc b t cs*F)) (i:Nat):w.frozen? ⟨b,i,none⟩=false:=by
 have:=Sat.at_ h
 simp[World.frozen?,this]
theorem Sat.set {b:Nat} {t:TypeId} {cs:Array Value} (h:Sat w0 w (Oc b t cs*F)) (i:Nat) (v:Value):Sat w0 (w.setCell ⟨b,i,none⟩ v) (Oc b t (cs.setIfInBounds i v)*F):=by
 refine Sat.put (o:= .cells cs t (0,0)) h rfl rfl rfl ?_ fun k hk mi=>Below.heap_setCell w ⟨b,i,none⟩ v k mi
 have:=Sat.at_ h
 simp[World.setCell,Array.getElem?_modify,this]
theorem Sat.start (w:World):Sat w w (yn w):=⟨rfl,rfl,rfl,fun k=>w.heap[k]?,rfl,fun _ _ h=>h⟩
theorem Sat.ends (h:Sat w0 w (yn w0*F)):Below w0.heap.size w0 w:=by
 obtain⟨x,hx,hk⟩:=h.Cq.heap
 have DA:x=_:=hx
 subst DA
 have l9:∀k,k<w0.heap.size→w.heap[k]? =w0.heap[k]? :=fun k bW=>by
  have h1:w0.heap[k]? =some w0.heap[k]:=Array.getElem?_eq_getElem bW
  exact(hk k _ h1).trans h1.symm
 refine⟨h.os,h.tape,h.output,?_,l9⟩
 rcases Nat.lt_or_ge w.heap.size w0.heap.size with OC|hle
 ·have h1:=l9 w.heap.size OC
  rw[Array.getElem?_eq_none (Nat.le_refl _),Array.getElem?_eq_getElem OC]at h1
  cases h1
 ·exact hle
theorem Sat.KE (h:Sat w0 w (yn w0*F)) {a:Addr} {v:Value} (hc:w0.cell? a=some v):w.cell? a=some v:=by
 have hb:=h.ends
 have bW:a.block<w0.heap.size:=by
  rcases Nat.lt_or_ge a.block w0.heap.size with bW|kQ
  ·exact bW
  ·simp[World.cell?,Array.getElem?_eq_none kQ]at hc
 rw[hb.cell bW];exact hc
end
section
open Go.RowKit
variable {w0 w w':World} {F:af} {P:Program}
def sP (fr:Nat×Nat) (lo hi:Nat):Prop:=∀i,lo≤i→i<hi→(decide (fr.1≤i)&&decide (i<fr.2))=false
def Gs (e:TypeId) (size:Nat) (v:Value) (n:Nat) (xs:List Value):af:=
 ⟨fun h=>xs.length=n*size∧((∃A,v= .slice A 0 0∧n=0∧∀k,h k=none)∨
  ∃g off cap cur fr,v= .slice (some ⟨g,off,none⟩) n cap∧n≤cap∧cap≤maxLen∧off+cap*size≤cur.size∧(cur.toList.drop off).take (n*size)=xs∧
   sP fr off (off+cap*size)∧h=fun k=>if k=g then some (.cells cur e fr)else none)⟩
theorem Sat.MQ (h:Sat w0 w F) (e:TypeId) (size:Nat) (A:Option Addr):Sat w0 w (Gs e size (.slice A 0 0) 0 []*F):=by
 rw[←aB (F:=F)]at h
 exact h.mono fun x ⟨a,b,hd,he,hp,hq⟩=>⟨a,b,hd,he,⟨by simp,.inl ⟨A,rfl,rfl,hp⟩⟩,hq⟩
theorem Sat.yc (e:TypeId) (size n g off cap:Nat) (cur:Array Value) (fr:Nat×Nat) (xs:List Value) (h:Sat w0 w (pM g (.cells cur e fr)*F))
 (hl:xs.length=n*size) (hn:n≤cap) (hm:cap≤maxLen) (hc:off+cap*size≤cur.size) (ht:(cur.toList.drop off).take (n*size)=xs) (hf:sP fr off (off+cap*size)):
 Sat w0 w (Gs e size (.slice (some ⟨g,off,none⟩) n cap) n xs*F):=
 h.mono fun _ ⟨a,b,hd,he,hp,hq⟩=>⟨a,b,hd,he,⟨hl,.inr ⟨g,off,cap,cur,fr,rfl,hn,hm,hc,ht,hf,hp⟩⟩,hq⟩
theorem Sat.jN {e:TypeId} {size:Nat} {v:Value} {n:Nat} {xs:List Value} (h:Sat w0 w (Gs e size v n xs*F)):
 xs.length=n*size∧((∃A,v= .slice A 0 0∧n=0∧Sat w0 w F)∨
  ∃g off cap cur fr,v= .slice (some ⟨g,off,none⟩) n cap∧n≤cap∧cap≤maxLen∧off+cap*size≤cur.size∧(cur.toList.drop off).take (n*size)=xs∧
   sP fr off (off+cap*size)∧Sat w0 w (pM g (.cells cur e fr)*F)):=by
 obtain⟨x,⟨a,b,hd,he,⟨hl,hp⟩,hq⟩,hk⟩:=h.heap
 refine⟨hl,?_⟩
 rcases hp with ⟨A,rfl,rfl,hn⟩|⟨g,off,cap,cur,fr,rfl,hn,hm,hc,ht,hf,hp⟩
 ·exact .inl ⟨A,rfl,rfl,h.drop⟩
 ·exact .inr ⟨g,off,cap,cur,fr,rfl,hn,hm,hc,ht,hf,h.os,h.tape,h.output,x,⟨a,b,hd,he,hp,hq⟩,hk⟩
theorem Sat.K1 {e:TypeId} {size:Nat} {v:Value} {n:Nat} {xs:List Value} (h:Sat w0 w (Gs e size v n xs*F)):∃A c,v= .slice A n c:=by
 obtain⟨_,⟨A,rfl,rfl,_⟩|⟨g,off,cap,_,_,rfl,_⟩⟩:=h.jN
 ·exact⟨_,_,rfl⟩
 ·exact⟨_,_,rfl⟩
theorem add_lit (g off j:Nat):(⟨g,off,none⟩:Addr).add j=⟨g,off+j,none⟩:=by unfold Addr.add;split<;>simp_all
theorem K0 {cur:Array Value} {off k j:Nat} {xs:List Value} {u:Value} (ht:(cur.toList.drop off).take k=xs) (hu:xs[j]? =some u):cur[off+j]? =some u:=by
 rw[←ht,List.getElem?_take]at hu
 split at hu
 ·rw[List.getElem?_drop]at hu;simpa using hu
 ·cases hu
theorem Sat.Dl {e:TypeId} {size:Nat} {v:Value} {n:Nat} {xs:List Value} (h:Sat w0 w (Gs e size v n xs*F)) (hn:xs≠[]):
 ∃g off cap,v= .slice (some ⟨g,off,none⟩) n cap∧n≤cap∧cap≤maxLen∧(∀j u,xs[j]? =some u→w.cell? ⟨g,off+j,none⟩=some u∧w.frozen? ⟨g,off+j,none⟩=false):=by
 obtain⟨hl,⟨A,rfl,rfl,_⟩|⟨g,off,cap,cur,fr,rfl,hn,hm,hc,ht,hf,hs⟩⟩:=h.jN
 ·exact absurd (List.eq_nil_of_length_eq_zero (by simpa using hl)) hn
 ·refine⟨g,off,cap,rfl,hn,hm,fun j u hu=> ?_⟩
  have hg:=hs.at_
  have hj:j<n*size:=by rw[←hl];exact(List.getElem?_eq_some_iff.1 hu).1
  have hle:n*size≤cap*size:=Nat.mul_le_mul_right _ hn
  exact⟨by simp[World.cell?,hg,K0 ht hu],by have:=hf (off+j) (by omega) (by omega);simpa [World.frozen?,hg]using this⟩
structure Src (P:Program) (w:World) (size m:Nat) (x:Value) (news:List Value):Prop where
 len:Builtin.lenOf x=pure m
 length:news.length=m*size
 cells:∀w':World,w'.heap=w.heap→(Builtin.firstCells size m x).run P w'= .ok news.toArray w'
theorem Src.slice (size m c:Nat) (a:Addr) (news:List Value) (hl:news.length=m*size) (h:∀j u,news[j]? =some u→w.cell? (a.add j)=some u):
 Src P w size m (.slice (some a) m c) news:=
 ⟨rfl,hl,fun w' hw=>run_firstCells_some w' size m a m c news hl fun j u hu=>(World.cell?_of_block (by rw[hw])).trans (h j u hu)⟩
theorem Src.nil (size c:Nat):Src P w size 0 (.slice none 0 c) []:=⟨rfl,by simp,fun w' _=>run_firstCells_none w' size 0 0 c⟩
theorem Src.string (s:ByteArray):Src P w 1 s.size (.string s) (s.data.toList.map fun b=> .int .u8 b.toNat):=
 ⟨rfl,by simp,fun w' _=>by
  have hx:(s.extract 0 s.size)=s:=by simp
  simp only[Builtin.firstCells,hx,Sem.run_pure]
  congr 1
  apply Array.ext'
  simp⟩
theorem Src.nothing (size c:Nat) (A:Option Addr):Src P w size 0 (.slice A 0 c) []:=by
 cases A with
 |none=>exact Src.nil size c
 |some a=>exact Src.slice size 0 c a [] (by simp) (by simp)
theorem Src.own {e:TypeId} {size:Nat} {v:Value} {n:Nat} {xs:List Value} (h:Sat w0 w (Gs e size v n xs*F)):Src P w size n v xs:=by
 obtain⟨hl,⟨A,rfl,rfl,_⟩|⟨g,off,cap,cur,fr,rfl,hn,hm,hc,ht,hf,hs⟩⟩:=h.jN
 ·obtain rfl:xs=[]:=List.eq_nil_of_length_eq_zero (by simpa using hl)
  exact Src.nothing size 0 A
 ·refine Src.slice size n cap _ xs hl fun j u hu=> ?_
  rw[add_lit]
  have hg:=hs.at_
  simp[World.cell?,hg,K0 ht hu]
theorem ig (g o:Nat) (t:TypeId) (fr:Nat×Nat):∀(vs:List Value) (i:Nat) (cur:Array Value) (w:World),w.heap[g]? =some (.cells cur t fr)→o+i+vs.length≤cur.size→(∀v∈vs,v.oneCell'=true)→
 sP fr (o+i) (o+i+vs.length)→
 (storeCells ⟨g,o,none⟩ vs i).run P w= .ok () (w.setRow g (cur.toList.take (o+i)++vs++cur.toList.drop (o+i+vs.length)).toArray)
 |[],i,cur,w,hg,_,_,_=>by
  simp only[storeCells,List.append_nil,List.length_nil,Nat.add_zero,List.take_append_drop,Array.toArray_toList]
  rw[setRow_self w g cur t fr hg]
  rfl
 |v::rest,i,cur,w,hg,hl,h1,hf=>by
  have hi:o+i<cur.size:=by simp at hl;omega
  have Ef:(⟨g,o,none⟩:Addr).add i=⟨g,o+i,none⟩:=add_lit g o i
  have FV:w.cell? ⟨g,o+i,none⟩=some cur[o+i]:=by simp[World.cell?,hg,hi]
  have T5:w.frozen? ⟨g,o+i,none⟩=false:=by
   have:=hf (o+i) (by omega) (by simp)
   simpa [World.frozen?,hg]using this
  have jf:(store ((⟨g,o,none⟩:Addr).add i) v).run P w= .ok () (w.setRow g (cur.setIfInBounds (o+i) v)):=by
   rw[Ef,run_store P w _ v _ (h1 v (by simp)),FV]
   simp[T5,setCell_eq_setRow w g (o+i) cur t fr v hg]
  have ih:=ig g o t fr rest (i+1) (cur.setIfInBounds (o+i) v) (w.setRow g (cur.setIfInBounds (o+i) v)) (setRow_heap w g cur _ t _ hg) (by simp at hl ⊢;omega) (fun x hx=>h1 x (by simp[hx]))
   (fun k Cg vS=>hf k (by omega) (by simp;omega))
  simp only[storeCells,Sem.run_bind,jf,Result.andThen]
  rw[ih]
  congr 1
  rw[setRow_setRow]
  congr 1
  apply Array.ext'
  apply List.ext_getElem?
  intro j
  simp only[Array.toList_setIfInBounds,List.length_cons]
  rw[List.getElem?_append,List.getElem?_append,List.getElem?_append,List.getElem?_append]
  simp only[List.length_append,List.length_take,List.length_set,Array.length_toList,List.getElem?_take,List.getElem?_drop,List.length_cons,List.getElem?_set]
  have e1:min (o+(i+1)) cur.size=o+i+1:=by omega
  have e2:min (o+i) cur.size=o+i:=by omega
  rw[e1,e2]
  by_cases c1:j<o+i
  ·simp[c1,show j<o+i+1 by omega,show j<o+i+1+rest.length by omega,show j<o+i+(rest.length+1) by omega,show ¬(o+i=j) by omega,show j<o+(i+1) by omega]
  ·by_cases c2:j=o+i
   ·subst c2
    simp[show o+i<o+(i+1) by omega,show o+i<o+i+1+rest.length by omega,hi]
   ·by_cases c3:j<o+i+1+rest.length
    ·have:j - (o+i)=(j - (o+i+1))+1:=by omega
     simp[show ¬j<o+i+1 by omega,c1,show j<o+i+(rest.length+1) by omega,c3,this]
    ·simp[show ¬j<o+i+(rest.length+1) by omega,c3,show ¬(o+i=o+(i+1)+rest.length+(j - (o+i+1+rest.length))) by omega]
     congr 1
     omega
section append
variable (P) (t t2 ty e:TypeId) (i:TypeInfo) (z:Value) (size bytes:Nat)
theorem yN {xs ys:List Value} {cur:List Value} {off k m:Nat} (ht:(cur.drop off).take k=xs) (hk:off+k+ys.length≤cur.length) (hx:xs.length=k) (hm:m=k+ys.length):
 ((cur.take (off+k)++ys++cur.drop (off+k+ys.length)).drop off).take m=xs++ys:=by
 subst hm
 have h1:(cur.take (off+k)).drop off=xs:=by rw[List.drop_take,←ht];congr 1;omega
 rw[List.append_assoc,List.drop_append_of_le_length (by simp;omega),h1,←List.append_assoc,List.take_append_of_le_length (by simp;omega)]
 exact List.take_of_length_le (by simp;omega)
theorem yL (ht:P.underlying t=some (.slice e)) (h2:P.underlying t2=some (.slice e)∨P.underlying t2=some .string) (hi:P.info? e=some i) (hz:i.zero=some z)
 (Ka:i.size=size) (uX:i.bytes=bytes) (Kg:z.cells.size=size) (rZ:0<size)
 (v:Value) (n:Nat) (xs:List Value) (h:Sat w0 w (Gs e size v n xs*F)) (m:Nat) (x:Value) (news:List Value) (src:Src P w size m x news) (h1:∀u∈news,u.oneCell'=true)
 (SE:n+m≤maxLen) (Ek:(n+m)*bytes≤140737488355328):
 ∃v' w',(Builtin.append_ #[t,t2] ty #[v,x]).run P w= .ok v' w'∧Sat w0 w' (Gs e size v' (n+m) (xs++news)*F):=by
 subst Ka
 subst uX
 obtain⟨hl,hc⟩:=h.jN
 have hlen:(xs++news).length=(n+m)*i.size:=by rw[List.length_append,hl,src.length,Nat.add_mul]
 have RF:=src.len
 have grow:∀(yn:Nat) (A:Option Addr),yn<n+m→v= .slice A n yn→(∀w':World,w'.heap=w.heap→(Builtin.firstCells i.size n v).run P w'= .ok xs.toArray w')→Sat w0 w F→
  ∃v' w',(Builtin.append_ #[t,t2] ty #[v,x]).run P w= .ok v' w'∧Sat w0 w' (Gs e i.size v' (n+m) (xs++news)*F):=by
  intro yn A ho hv hold hF
  subst hv
  have kQ:=grownCap_ge w (n+m) yn e
  have Xv:grownCap w (n+m) yn e≤maxLen:=grownCap_le_maxLen w (n+m) yn e SE
  have hn:¬(n+m≤yn):=by omega
  have TL:¬(9223372036854775807<((n:Int)+(m:Int))):=by simp only[maxLen]at SE;omega
  have qB:=growslice_fits ho Ek
  have TK:¬(281474976710656<Builtin.nextslicecap (n+m) yn*i.bytes):=by omega
  have hf:=src.cells w.drew rfl
  have XC:=hold w.drew rfl
  have FV:(w.drew.alloc (.cells (xs.toArray++news.toArray++Builtin.zeroCells z.cells (grownCap w (n+m) yn e - (n+m))) e))=w.drew.alloc (.cells (xs.toArray++news.toArray++Builtin.zeroCells z.cells (grownCap w (n+m) yn e - (n+m))) e):=rfl
  refine⟨.slice (some ⟨w.heap.size,0,none⟩) (n+m) (grownCap w (n+m) yn e),w.drew.alloc (.cells (xs.toArray++news.toArray++Builtin.zeroCells z.cells (grownCap w (n+m) yn e - (n+m))) e),?_,?_⟩
  ·unfold Builtin.append_
   rcases h2 with hu|hu<;>simp[run_underlying ht,run_underlying hu,sizeOf,typeInfo,zeroValue,hi,hz,RF,hn,TL,TK,Question.forced,hf,XC,newRow,grownCap]<;>(congr 2;apply Array.ext';simp[List.append_assoc])
  ·refine Sat.yc e i.size (n+m) w.heap.size 0 _ _ (0,0) _ (hF.drew.alloc _) hlen kQ Xv ?_ ?_ ?_
   ·simp only[Array.size_append,List.size_toArray,size_zeroCells,Kg,hl,src.length,Nat.zero_add]
    rw[←Nat.add_mul,←Nat.add_mul]
    exact Nat.mul_le_mul_right _ (by omega)
   ·simp only[Array.toList_append,List.append_assoc,List.drop_zero]
    rw[←List.append_assoc,←hlen]
    exact List.take_left
   ·intro k _ _
    simp
 rcases hc with ⟨A,rfl,rfl,hF⟩|⟨g,off,cap,cur,fr,rfl,Zd,hm,zm,Rx,OA,hs⟩
 ·have hx:xs=[]:=List.eq_nil_of_length_eq_zero (by simpa using hl)
  subst hx
  by_cases hm:m=0
  ·subst hm
   have hn:news=[]:=List.eq_nil_of_length_eq_zero (by simpa using src.length)
   subst hn
   refine⟨.slice A 0 0,w,?_,by simpa using hF.MQ e i.size A⟩
   have hf:=src.cells w rfl
   unfold Builtin.append_
   rcases h2 with hu|hu<;>cases A<;>simp[run_underlying ht,run_underlying hu,sizeOf,typeInfo,hi,RF,hf,storeCells]
  ·exact grow 0 A (by omega) rfl (fun w' O6=>by cases A<;>simp[Builtin.firstCells,loadCells,loadCellsFrom]) hF
 ·by_cases J7:n+m≤cap
  ·have hle:(n+m)*i.size≤cap*i.size:=Nat.mul_le_mul_right _ J7
   have qB:off+n*i.size+news.length≤cur.size:=by rw[src.length];rw[Nat.add_mul]at hle;omega
   have jf:=ig (P:=P) g (off+n*i.size) e fr news 0 cur w hs.at_ (by omega) h1 (fun k Cg vS=>OA k (by omega) (by rw[src.length]at vS;rw[Nat.add_mul]at hle;omega))
   simp only[Nat.add_zero]at jf
   refine⟨.slice (some ⟨g,off,none⟩) (n+m) cap,w.setRow g (cur.toList.take (off+n*i.size)++news++cur.toList.drop (off+n*i.size+news.length)).toArray,?_,?_⟩
   ·have hf:=src.cells w rfl
    unfold Builtin.append_
    rcases h2 with hu|hu<;>simp[run_underlying ht,run_underlying hu,sizeOf,typeInfo,hi,RF,J7,hf,add_lit,jf]
   ·refine Sat.yc e i.size (n+m) g off cap (cur.toList.take (off+n*i.size)++news++cur.toList.drop (off+n*i.size+news.length)).toArray fr _ ?_ hlen J7 hm ?_ ?_ OA
    ·exact Sat.put hs rfl rfl rfl (setRow_heap w g cur _ e fr hs.at_) fun k _ hk=>setRow_other w g k _ hk
    ·simp only[List.size_toArray,List.length_append,List.length_take,List.length_drop,Array.length_toList]
     omega
    ·exact yN Rx (by simpa using qB) hl (by rw[src.length,Nat.add_mul])
  ·exact grow cap (some ⟨g,off,none⟩) (by omega) rfl (fun w' O6=>(Src.own (P:=P) h).cells w' O6) hs.drop
end append
structure yt (P:Program) (t e:TypeId) (size bytes:Nat):Prop where
 ht:P.underlying t=some (.slice e)
 info:∃i z,P.info? e=some i∧i.zero=some z∧i.size=size∧i.bytes=bytes∧z.cells.size=size
 pos:0<size
theorem yt.of {t e size bytes:Nat} {z:Value} (ht:P.underlying t=some (.slice e)) (h:(P.info? e).map (fun i=>(i.zero,i.size,i.bytes))=some (some z,size,bytes)) (hz:z.cells.size=size) (hp:0<size):yt P t e size bytes:=by
 obtain⟨i,hi,h1,h2,h3⟩:=info_parts h
 exact⟨ht,⟨i,z,hi,h1,h2,h3,hz⟩,hp⟩
section
variable {t e size bytes:Nat} {ops:Array Oper} {rest:List Oper} {o:Oper} {a:Act} {K:Act→World→Prop} {Q:Exit→Act→World→Prop} {v xv:Value} {n m:Nat} {xs news:List Value}
theorem sV (T:yt P t e size bytes) {t2:TypeId} (h2:P.underlying t2=some (.slice e)∨P.underlying t2=some .string) (s x:Operand)
 (ho:o.op= .call {callee:= .builtin .append,args:= #[s,x],argTypes:= #[t,t2]})
 (hS:Sat w0 w (Gs e size v n xs*F)) (hs:a.eval s=v) (hx:a.eval x=xv) (src:Src P w size m xv news) (h1:∀u∈news,u.oneCell'=true)
 (SE:n+m≤maxLen) (Ek:(n+m)*bytes≤140737488355328)
 (h:∀v' w',Sat w0 w' (Gs e size v' (n+m) (xs++news)*F)→K (a.put o.dst v') w'):o.wp P a w K Q:=by
 obtain⟨i,z,hi,hz,Ka,uX,Kg⟩:=T.info
 obtain⟨v',w',hr,SG⟩:=yL P t t2 o.type e i z size bytes T.ht h2 hi hz Ka uX Kg T.pos v n xs hS m xv news src h1 SE Ek
 unfold Oper.wp execOp
 simp only[ho,resolve,invoke,builtin,Sem.run_bind,Sem.run_pure,Result.andThen_ok,List.map_toArray,List.map_cons,List.map_nil,hs,hx,hr]
 exact h v' w' SG
end
end
section
def u8 (b:UInt8):Value:= .int .u8 (b.toNat:Int)
def K8 (l:List UInt8):List Value:=l.map u8
def u32 (k:UInt32):Value:= .int .u32 (k.toNat:Int)
def u64 (k:UInt64):Value:= .int .u64 (k.toNat:Int)
theorem qU (a:List UInt8):(K8 a).length=a.length:=by simp[K8]
def be (k:UInt32):List UInt8:=[UInt8.ofNat (k.toNat / 16777216),UInt8.ofNat (k.toNat / 65536 % 256),UInt8.ofNat (k.toNat / 256 % 256),UInt8.ofNat (k.toNat % 256)]
theorem al (k:UInt32):(be k).length=4:=rfl
def num (a b c d:UInt8):UInt32:=UInt32.ofNat (a.toNat*16777216+b.toNat*65536+c.toNat*256+d.toNat)
theorem tY (a b c d:UInt8):(num a b c d).toNat=a.toNat*16777216+b.toNat*65536+c.toNat*256+d.toNat:=by
 have h1:=a.toNat_lt;have h2:=b.toNat_lt;have h3:=c.toNat_lt;have h4:=d.toNat_lt
 simp only[num,UInt32.toNat_ofNat']
 omega
theorem Pv (k:UInt32):num (UInt8.ofNat (k.toNat / 16777216)) (UInt8.ofNat (k.toNat / 65536 % 256)) (UInt8.ofNat (k.toNat / 256 % 256)) (UInt8.ofNat (k.toNat % 256))=k:=by
 have hk:=k.toNat_lt
 apply UInt32.toNat_inj.1
 rw[tY]
 simp only[UInt8.toNat_ofNat']
 omega
theorem Ob (a b c d:UInt8):be (num a b c d)=[a,b,c,d]:=by
 have h1:=a.toNat_lt;have h2:=b.toNat_lt;have h3:=c.toNat_lt;have h4:=d.toNat_lt
 simp only[be,tY]
 congr 1
 ·apply UInt8.toNat_inj.1;simp only[UInt8.toNat_ofNat'];omega
 congr 1
 ·apply UInt8.toNat_inj.1;simp only[UInt8.toNat_ofNat'];omega
 congr 1
 ·apply UInt8.toNat_inj.1;simp only[UInt8.toNat_ofNat'];omega
 congr 1
 ·apply UInt8.toNat_inj.1;simp only[UInt8.toNat_ofNat'];omega
def Ea (c:UInt32):UInt32:=if c.toNat % 2=1 then UInt32.ofNat (c.toNat / 2) ^^^ 3988292384 else UInt32.ofNat (c.toNat / 2)
def lK:Nat→UInt32→UInt32
 |0,c=>c
 |n+1,c=>Ea (lK n c)
def qu (c:UInt32) (l:List UInt8):UInt32:=l.foldl (fun c b=>lK 8 (c ^^^ UInt32.ofNat b.toNat)) c
def sumOf (l:List UInt8):UInt32:=4294967295 ^^^ qu 4294967295 l
theorem Ei (c:UInt32):(UInt32.ofNat (c.toNat / 2)).toNat=c.toNat / 2:=by
 have:=c.toNat_lt
 rw[UInt32.toNat_ofNat'];omega
theorem DX (b:UInt8):(UInt32.ofNat b.toNat).toNat=b.toNat:=by
 have:=b.toNat_lt
 rw[UInt32.toNat_ofNat'];omega
theorem yf (c:UInt32) (l:List UInt8) (b:UInt8):qu c (l++[b])=lK 8 (qu c l ^^^ UInt32.ofNat b.toNat):=by simp[qu]
structure Rec where
 own:Bool
 addr:UInt32
 seq:UInt32
def Rec.cells (r:Rec):List Value:=[.bool r.own,u32 r.addr,u32 r.seq]
def Rec.head (r:Rec):List UInt8:=(if r.own then 1 else 2)::(be (if r.own then 0 else r.addr)++be r.seq)
def Rec.bytes (r:Rec):List UInt8:=r.head++be (sumOf r.head)
theorem Rec.dz (r:Rec):r.bytes.length=13:=rfl
def aI (l:List Rec):List Value:=l.flatMap Rec.cells
def dW (y:List UInt8) (i:Nat):UInt8:=y[i]?.getD 0
def bm (y:List UInt8) (i:Nat):UInt32:=num (dW y i) (dW y (i+1)) (dW y (i+2)) (dW y (i+3))
def gy (l:List UInt8):Rec:=⟨((dW l 0).toNat:Int)==1,bm l 1,bm l 5⟩
def jL:Nat→List UInt8→List Rec
 |0,_=>[]
 |n+1,l=>if 13≤l.length∧(gy l).bytes=l.take 13 then gy l::jL n (l.drop 13)else []
def ic (l:List UInt8):List Rec:=jL (l.length / 13) l
theorem C6 (n:Nat) (l:List UInt8) (h:l.length<13):jL n l=[]:=by
 cases n with
 |zero=>rfl
 |succ n=>rw[jL,if_neg (by omega)]
theorem H2 (n:Nat) (l:List UInt8) (h:¬(gy l).bytes=l.take 13):jL n l=[]:=by
 cases n with
 |zero=>rfl
 |succ n=>rw[jL,if_neg (fun hh=>h hh.2)]
theorem H3 (n:Nat) (l:List UInt8) (h0:13≤l.length) (hn:0<n) (h:(gy l).bytes=l.take 13):jL n l=gy l::jL (n - 1) (l.drop 13):=by
 cases n with
 |zero=>omega
 |succ n=>rw[jL,if_pos ⟨h0,h⟩];rfl
theorem E3 (xs:List UInt8) (js:List Rec) (k:Nat) (y:List UInt8) (hj:ic xs=js++jL (xs.length / 13 - k) (xs.drop (13*k))) (hy:y=xs.drop (13*k)) (bW:13≤xs.length - 13*k) (hx:(gy y).bytes=y.take 13):
 ic xs=(js++[gy y])++jL (xs.length / 13 - (k+1)) (xs.drop (13*(k+1))):=by
 have Ns:y.length=xs.length - 13*k:=by rw[hy];simp
 rw[hj,←hy,H3 (xs.length / 13 - k) y (by omega) (by omega) hx,List.append_assoc]
 have e:y.drop 13=xs.drop (13*(k+1)):=by rw[hy,List.drop_drop];congr 1
 rw[e];rfl
theorem Bc (n:Nat) (l:List UInt8):(jL n l).length≤n:=by
 induction n generalizing l with
 |zero=>simp[jL]
 |succ n ih=>
  rw[jL]
  split
  ·have:=ih (l.drop 13);simp;omega
  ·simp
theorem sD (l:List UInt8):13*(ic l).length≤l.length:=by
 have:=Bc (l.length / 13) l
 simp only[ic];omega
end
section
open Go.ChangeShapes Go.WideShapes Go.ChangeAt Go.RowKit Go.Deep
section
variable {H:Type} {enc:TypeId×Value→H} {P:Program} {w:World} {base:Nat} {spare:Nat→Bool} {held:Bool}
theorem wf_u32 {n:Int} (h:(Lit.int .u32 n).wf=true):∃k:UInt32,n=(k.toNat:Int):=by
 have hb:0≤n∧n≤4294967295:=by simpa [Lit.wf,IntKind.min,IntKind.max,IntKind.signed,IntKind.bits]using h
 exact⟨UInt32.ofNat n.toNat,by rw[UInt32.toNat_ofNat'];omega⟩
theorem wf_u64 {n:Int} (h:(Lit.int .u64 n).wf=true):∃k:UInt64,n=(k.toNat:Int):=by
 have hb:0≤n∧n≤18446744073709551615:=by simpa [Lit.wf,IntKind.min,IntKind.max,IntKind.signed,IntKind.bits]using h
 exact⟨UInt64.ofNat n.toNat,by rw[UInt64.toNat_ofNat'];omega⟩
theorem wf_i64 {n:Int} (h:(Lit.int .i64 n).wf=true): -9223372036854775808≤n∧n≤9223372036854775807:=by
 simpa [Lit.wf,IntKind.min,IntKind.max,IntKind.signed,IntKind.bits]using h
theorem sM {t:TypeId} {fs:Array Field} {fuel:Nat} {c:List Value} {y:DataW H×List MemPlace} (hs:P.underlying t=some (.struct fs)) (Cj:oneCellFields P fs=true) (hC:P.cellsOf t=fs.size)
 (h:DataW.trod enc P w base spare held fuel t c=some y):
 c.length=fs.size∧∃(ys:List (DataW H×List MemPlace)) (n:Nat),y=(.agg (ys.map (·.1)),ys.flatMap (·.2))∧ys.length=fs.size∧∀(j:Nat) (f:Field),fs[j]? =some f→∃v y',c[j]? =some v∧ys[j]? =some y'∧DataW.trod enc P w base spare held n f.type [v]=some y':=by
 obtain⟨ys,n,_,hy,hlen,Ns,hf⟩:=DataW.trod_struct hs h
 refine⟨hlen.trans hC,ys,n,hy,Ns,fun j f hj=> ?_⟩
 obtain⟨ho,hk⟩:=hone_of Cj j f hj
 have Ng:j<fs.size:=(Array.getElem?_eq_some_iff.1 hj).1
 have V1:j<c.length:=by rw[hlen,hC];exact Ng
 have h1:=hf j f hj
 rw[ho,hk]at h1
 have Rj:(c.drop j).take 1=[c[j]]:=by
  rw[List.drop_eq_getElem_cons V1];rfl
 rw[Rj]at h1
 have Nt:ys[j]? =some (ys[j]'(by omega)):=List.getElem?_eq_getElem (by omega)
 exact⟨c[j],_,List.getElem?_eq_getElem V1,Nt,h1.trans Nt⟩
end
theorem laid:laidOutB Tryz.prog=true:=by kernel_rfl
end
section
open Go.RowKit
abbrev Env:=List (Nat×Value)
def Env.get:Env→Nat→Option Value
 |[],_=>none
 |(k,v)::r,t=>bif Nat.beq k t then some v else Env.get r t
def Env.ev (E:Env):Operand→Option Value
 | .tmp t=>E.get t
 | .const v=>some v
 | .global g=>some (.pointer (some ⟨g,0,none⟩))
 | .func f=>some (.func (.func f) #[] #[])
def Env.mU (E:Env):List Operand→Option (List Value)
 |[]=>some []
 |x::r=>match E.ev x,Env.mU E r with
  |some v,some vs=>some (v::vs)
  |_,_=>none
def Env.sub:Env→Env→Prop
 |[],_=>True
 |(k,v)::r,E=>E.get k=some v∧Env.sub r E
structure fT where
 tmps:Nat
 round:Option Nat
def uW (ro:Option Nat):Fence:={Fence.wide with round:=ro}
structure fV (n:fT) (E:Env) (a:Act):Prop where
 size:a.tmps.size=n.tmps
 get:∀t v,E.get t=some v→a.tmps.getD t undef=v
theorem Env.jV (k:Nat) (v:Value) (r:Env) (t:Nat):Env.get ((k,v)::r) t=if k=t then some v else Env.get r t:=by
 show(bif Nat.beq k t then some v else Env.get r t)=_
 by_cases h:k=t
 ·subst h;simp
 ·have:Nat.beq k t=false:=by
   cases hb:Nat.beq k t with
   |false=>rfl
   |true=>exact absurd (Nat.eq_of_beq_eq_true hb) h
  simp[this,h]
theorem Env.Gu:∀{E E':Env},E.sub E'→∀t v,E.get t=some v→E'.get t=some v
 |[],_,_,t,v,h=>by simp[Env.get]at h
 |(k,u)::r,E',hs,t,v,h=>by
  rw[Env.jV]at h
  split at h
  ·rename_i e;subst e;cases h;exact hs.1
  ·exact Env.Gu hs.2 t v h
abbrev iI.{u}:= @inferInstance.{u}
variable {P:Program} {n:fT} {w0:World} {E E':Env} {D:List Deferred} {H F R:af}
theorem fV.sub {a:Act} (h:fV n E a) (hs:E'.sub E):fV n E' a:=⟨h.size,fun t v ht=>h.get t v (Env.Gu hs t v ht)⟩
theorem fV.ev {a:Act} (h:fV n E a) {x:Operand} {v:Value} (e:E.ev x=some v):a.eval x=v:=by
 cases x with
 |tmp t=>exact h.get t v e
 |const u=>cases e;rfl
 |global g=>cases e;rfl
 |func f=>cases e;rfl
theorem fV.mU {a:Act} (h:fV n E a):∀{xs:List Operand} {vs:List Value},E.mU xs=some vs→xs.map a.eval=vs
 |[],vs,e=>by cases e;rfl
 |x::r,vs,e=>by
  simp only[Env.mU]at e
  split at e
  ·rename_i v us e1 e2
   cases e
   simp[h.ev e1,fV.mU h e2]
  ·cases e
theorem fV.put {a:Act} (h:fV n E a) {d:Nat} (v:Value) (hd:Nat.blt d n.tmps=true):fV n ((d,v)::E) (a.put (some d) v):=by
 have Ov:d<n.tmps:=by simpa using hd
 refine⟨by simp[Act.put,h.size],fun t u ht=> ?_⟩
 rw[Env.jV]at ht
 split at ht
 ·rename_i e;subst e;cases ht
  simp[Act.put,h.size,Ov]
 ·rename_i e
  have:=h.get t u ht
  simpa [Act.put,Array.getElem?_setIfInBounds_ne e]using this
def Env.hJ (E:Env):Option Tmp→Value→Env
 |some d,v=>(d,v)::E
 |none,_=>E
def gC (n:fT):Option Tmp→Bool
 |some d=>Nat.blt d n.tmps
 |none=>true
theorem fV.hJ {a:Act} (h:fV n E a) (d:Option Tmp) (v:Value) (hd:gC n d=true):fV n (E.hJ d v) (a.put d v):=by
 cases d with
 |none=>exact h
 |some d=>exact h.put v hd
class Lit (c:Bool) (b:Bool):Prop where eq:c=b
instance:Lit true true:=⟨rfl⟩
instance:Lit false false:=⟨rfl⟩
instance:Lit true (!false):=⟨rfl⟩
instance:Lit false (!true):=⟨rfl⟩
instance:Lit (!false) true:=⟨rfl⟩
instance:Lit (!true) false:=⟨rfl⟩
structure St where
 E:Env
 D:List Deferred
 H:af
structure Good (n:fT) (w0:World) (σ:St) (a:Act) (w:World):Prop where
 dQ:fV n σ.E a
 defers:a.defers=σ.D
 sat:Sat w0 w σ.H
def aq (H H':af):Prop:=∀h:Part,H.on h→∃h':Part,H'.on h'∧∀k o,h' k=some o→h k=some o
theorem aq.sat {w:World} (e:aq H F) (h:Sat w0 w H):Sat w0 w F:=by
 obtain⟨x,hx,hk⟩:=h.heap
 obtain⟨y,hy,Yq⟩:=e x hx
 exact⟨h.os,h.tape,h.output,y,hy,fun k o ho=>hk k o (Yq k o ho)⟩
theorem aq.refl (H:af):aq H H:=fun h hh=>⟨h,hh,fun _ _ e=>e⟩
theorem aq.of_eq (e:H=F):aq H F:=e▸aq.refl H
theorem aq.trans {G:af} (a:aq H F) (b:aq F G):aq H G:=fun h hh=>by
 obtain⟨x,hx,h1⟩:=a h hh
 obtain⟨y,hy,h2⟩:=b x hx
 exact⟨y,hy,fun k o e=>h1 k o (h2 k o e)⟩
theorem aq.drop (p q:af):aq (p*q) q:=fun h ⟨a,b,hd,he,hp,hq⟩=>⟨b,hq,fun k o e=>by
 subst he
 rcases hd k with e'|e'
 ·simp only[Part.join,e',e]
 ·rw[e']at e;cases e⟩
theorem aq.star {a b c d:af} (h1:aq a b) (h2:aq c d):aq (a*c) (b*d):=fun h ⟨x,y,hd,he,hp,hq⟩=>by
 obtain⟨x',DA,e1⟩:=h1 x hp
 obtain⟨y',Ke,e2⟩:=h2 y hq
 have Ov:Part.tB x' y':=fun k=>by
  rcases hd k with e|e
  ·left;cases hk:x' k with
   |none=>rfl
   |some o=>rw[e1 k o hk]at e;cases e
  ·right;cases hk:y' k with
   |none=>rfl
   |some o=>rw[e2 k o hk]at e;cases e
 refine⟨x'.join y',⟨x',y',Ov,rfl,DA,Ke⟩,fun k o e=> ?_⟩
 subst he
 simp only[Part.join]at e ⊢
 cases hx:x' k with
 |some u=>rw[hx]at e;rw[e1 k u hx];exact e
 |none=>
  rw[hx]at e
  have hy:=e2 k o e
  rcases hd k with e'|e'
  ·simp only[e',hy]
  ·rw[e']at hy;cases hy
theorem aq.tail {c d:af} (p:af) (h:aq c d):aq (p*c) (p*d):=aq.star (aq.refl p) h
def lift (n:fT) (w0:World) (Q:Exit→St→Prop):Exit→Act→World→Prop:=fun e a w=>∃σ,Q e σ∧Good n w0 σ a w
def WS (P:Program) (n:fT) (w0:World) (c:Code) (Q:Exit→St→Prop) (σ:St):Prop:=∀a w,Good n w0 σ a w→c.wpIn (uW n.round) 0 P (lift n w0 Q) a w
def thenS (K:St→Prop) (Q:Exit→St→Prop):Exit→St→Prop
 | .normal,σ=>K σ
 |e,σ=>Q e σ
def oK (id:Nat) (Q:Exit→St→Prop):Exit→St→Prop
 | .exit j,σ=>bif Nat.beq j id then Q .normal σ else Q (.exit j) σ
 |e,σ=>Q e σ
variable {Q:Exit→St→Prop} {σ:St} {c x y:Code}
theorem WS.mono {Q':Exit→St→Prop} (h:WS P n w0 c Q σ) (hq:∀e σ,Q e σ→Q' e σ):WS P n w0 c Q' σ:=
 fun a w g=>wpIn_mono (h a w g) fun e a w ⟨σ,h1,h2⟩=>⟨σ,hq e σ h1,h2⟩
theorem Jb (h:WS P n w0 x (thenS (WS P n w0 y Q) Q) σ):WS P n w0 (.seq x y) Q σ:=fun a w g=>
 wpIn_seq (wpIn_mono (h a w g) fun e a w ⟨σ',h1,h2⟩=>by
  cases e with
  |normal=>exact h1 a w h2
  |_=>exact⟨σ',h1,h2⟩)
theorem ab (h:∀K:St→Prop,(∀τ,WS P n w0 y Q τ→K τ)→WS P n w0 x (thenS K Q) σ):WS P n w0 (.seq x y) Q σ:=Jb (h _ fun _ h=>h)
theorem vZ {K:St→Prop} (h:K σ):thenS K Q .normal σ:=h
theorem Bl {K:St→Prop} (h:Q .ret σ):thenS K Q .ret σ:=h
theorem Gv {K:St→Prop} {j:Nat} (h:Q (.exit j) σ):thenS K Q (.exit j) σ:=h
theorem rH {id:Nat} (h:Q .normal σ):oK id Q .normal σ:=h
theorem wO {id:Nat} (h:Q .ret σ):oK id Q .ret σ:=h
theorem BS {id:Nat} (h:Q .normal σ):oK id Q (.exit id) σ:=by
 show(bif Nat.beq id id then Q .normal σ else Q (.exit id) σ)
 rw[Nat.beq_refl];exact h
theorem rI {id j:Nat} (hj:Nat.beq j id=false) (h:Q (.exit j) σ):oK id Q (.exit j) σ:=by
 show(bif Nat.beq j id then Q .normal σ else Q (.exit j) σ)
 rw[hj];exact h
theorem Gy {K:St→Prop} {c:Code} (h:∀τ,WS P n w0 c Q τ→K τ) (g:WS P n w0 c Q σ):K σ:=h σ g
theorem FD (h:Q .normal σ):WS P n w0 .skip Q σ:=fun a w g=>wpIn_skip ⟨σ,h,g⟩
theorem DI (h:Q .ret σ):WS P n w0 .ret Q σ:=fun a w g=>wpIn_ret ⟨σ,h,g⟩
theorem FC {id:Nat} (h:Q (.exit id) σ):WS P n w0 (.exit id) Q σ:=fun a w g=>wpIn_exit ⟨σ,h,g⟩
theorem oG {id:Nat} (h:WS P n w0 c (oK id Q) σ):WS P n w0 (.block id c) Q σ:=fun a w g=>
 wpIn_block (wpIn_mono (h a w g) fun e a w ⟨σ',h1,h2⟩=>by
  cases e with
  |exit j=>
   simp only[Exit.inBlock]
   by_cases hj:j=id
   ·subst hj
    rw[if_pos rfl]
    exact⟨σ',by simpa [oK]using h1,h2⟩
   ·rw[if_neg hj]
    have:Nat.beq j id=false:=by
     cases hb:Nat.beq j id with
     |false=>rfl
     |true=>exact absurd (Nat.eq_of_beq_eq_true hb) hj
    exact⟨σ',by simpa [oK,this]using h1,h2⟩
  |_=>exact⟨σ',h1,h2⟩)
theorem pr {o:Operand} {b:Bool} (hc:σ.E.ev o=some (.bool b)) (ht:b=true→WS P n w0 x Q σ) (hf:b=false→WS P n w0 y Q σ):WS P n w0 (.cond o x y) Q σ:=fun a w g=>
 wpIn_cond_split (g.dQ.ev hc) (fun e=>ht e a w g) (fun e=>hf e a w g)
theorem wy {o:Operand} {b:Bool} (hc:σ.E.ev o=some (.bool b)) (hl:Lit b true) (h:WS P n w0 x Q σ):WS P n w0 (.cond o x y) Q σ:=pr hc (fun _=>h) (fun e=>by cases hl.eq;cases e)
theorem BH {o:Operand} {b:Bool} (hc:σ.E.ev o=some (.bool b)) (hl:Lit b false) (h:WS P n w0 y Q σ):WS P n w0 (.cond o x y) Q σ:=pr hc (fun e=>by cases hl.eq;cases e) (fun _=>h)
theorem exists_least {p:Nat→Prop} (h:∃m,p m):∃m,p m∧∀k,p k→m≤k:=by
 obtain⟨m,hm⟩:=h
 induction m using Nat.strongRecOn with
 |_ m ih=>
  by_cases hk:∃k,k<m∧p k
  ·obtain⟨k,bW,hp⟩:=hk;exact ih k bW hp
  ·exact⟨m,hm,fun k hp=>by
    rcases Nat.lt_or_ge k m with bW|kQ
    ·exact absurd ⟨k,bW,hp⟩ hk
    ·exact kQ⟩
theorem BL (I:Nat→St→Prop) (h0:∃m τ,I m τ∧∀a w,Good n w0 σ a w→Good n w0 τ a w)
 (round:∀m τ,I m τ→WS P n w0 c (thenS (fun σ'=>∃m' τ',m'<m∧I m' τ'∧∀a w,Good n w0 σ' a w→Good n w0 τ' a w) Q) τ):WS P n w0 (.loop c) Q σ:=by
 intro a w g
 let p:Act→World→Nat→Prop:=fun a w m=>∃τ,I m τ∧Good n w0 τ a w
 let μ:Act→World→Nat:=fun a w=>by
  classical exact if h:∃m,p a w m then Classical.choose (exists_least h)else 0
 have hμ:∀a w,(∃m,p a w m)→p a w (μ a w)∧∀k,p a w k→μ a w≤k:=fun a w h=>by
  have e:μ a w=Classical.choose (exists_least h):=by simp only[μ];exact dif_pos h
  rw[e];exact Classical.choose_spec (exists_least h)
 refine wpIn_loop (fun a w=>∃m,p a w m) μ ?_ ?_
 ·obtain⟨m,τ,hI,h1⟩:=h0
  exact⟨m,τ,hI,h1 a w g⟩
 ·intro a w hp
  obtain⟨⟨τ,hI,gτ⟩,xl⟩:=hμ a w hp
  refine wpIn_mono (round _ τ hI a w gτ) fun e a' w' ⟨σ',h1,h2⟩=> ?_
  cases e with
  |normal=>
   obtain⟨m',τ',bW,TN,e1⟩:=h1
   have qZ:p a' w' m':=⟨τ',TN,e1 a' w' h2⟩
   exact⟨⟨m',qZ⟩,Nat.lt_of_le_of_lt ((hμ a' w' ⟨m',qZ⟩).2 m' qZ) bW⟩
  |_=>exact⟨σ',h1,h2⟩
theorem Good.low {τ σ:St} {a:Act} {w:World} (g:Good n w0 σ a w) (h1:τ.E.sub σ.E) (h2:τ.D=σ.D) (h3:aq σ.H τ.H):Good n w0 τ a w:=⟨g.dQ.sub h1,g.defers.trans h2.symm,h3.sat g.sat⟩
theorem aV (I:Nat→St→Prop) (h0:∃m τ,I m τ∧τ.E.sub σ.E∧τ.D=σ.D∧aq σ.H τ.H)
 (round:∀m τ,I m τ→WS P n w0 c (thenS (fun σ'=>∃m' τ',m'<m∧I m' τ'∧τ'.E.sub σ'.E∧τ'.D=σ'.D∧aq σ'.H τ'.H) Q) τ):WS P n w0 (.loop c) Q σ:=by
 refine BL I ?_ fun m τ hI=> ?_
 ·obtain⟨m,τ,hI,h1,h2,h3⟩:=h0
  exact⟨m,τ,hI,fun a w g=>g.low h1 h2 h3⟩
 ·refine(round m τ hI).mono fun e σ' h=> ?_
  cases e with
  |normal=>
   obtain⟨m',τ',bW,TN,e1,e2,e3⟩:=h
   exact⟨m',τ',bW,TN,fun a w g=>g.low e1 e2 e3⟩
  |_=>exact h
def Un (P:Program) (n:fT) (w0:World) (c:Code) (Q:Exit→St→Prop):Nat→St→Prop
 |0,_=>False
 |m+1,σ=>WS P n w0 c (thenS (Un P n w0 c Q m) Q) σ
theorem LZ {m:Nat} (h:WS P n w0 c (thenS (Un P n w0 c Q m) Q) σ):Un P n w0 c Q (m+1) σ:=h
theorem th (m:Nat) (h:Un P n w0 c Q m σ):WS P n w0 (.loop c) Q σ:=by
 refine BL (Un P n w0 c Q) ⟨m,σ,h,fun _ _ g=>g⟩ fun m τ hI=> ?_
 cases m with
 |zero=>exact hI.elim
 |succ m=>
  refine WS.mono hI fun e σ' h=> ?_
  cases e with
  |normal=>exact⟨m,σ',Nat.lt_succ_self m,h,fun _ _ g=>g⟩
  |_=>exact h
def cD (P:Program) (n:fT) (w0:World) (o:Oper) (E:Env) (H:af) (v:Value):Prop:=
 ∀a w,fV n E a→Sat w0 w H→(execOp a.eval o).run P w= .ok (.value v) w
def eM (P:Program) (n:fT) (w0:World) (o:Oper) (E:Env) (pre:af) {α:Type} (v:α→Value) (post:α→af):Prop:=
 ∀(G:af) a w (K:Act→World→Prop) (Q:Exit→Act→World→Prop),fV n E a→Sat w0 w (pre*G)→(∀x w',Sat w0 w' (post x*G)→K (a.put o.dst (v x)) w')→o.wp P a w K Q
def LS (P:Program) (n:fT) (w0:World) (ops:Array Oper) (Q:Exit→St→Prop) (l:List Oper) (σ:St):Prop:=∀a w,Good n w0 σ a w→wpListIn (uW n.round) 0 P ops (lift n w0 Q) l a w
theorem yV {ro:Option Nat} {m:Nat} {f:FuncId} {args:Array Value} {w:World} {R:Ending→World→Prop} (h:Calls P f args w R):CallsIn (uW ro) m P f args w R:=callsIn_wide.2 h
theorem KU {ro:Option Nat} {m:Nat} {row:String} {args:Array Value} {w:World} {R:Value→World→Prop} (h:Rows P row args w R):RowsIn (uW ro) m P row args w R:=fun c cs _=>
 let ⟨v,w',r,s⟩:=h c cs;⟨v,w',r,stepsIn_wide.2 s⟩
theorem jB {ro:Option Nat} {o:Oper} {a:Act} {w:World} {K:Act→World→Prop} {Q:Exit→Act→World→Prop} (xm:ro=none∨∀c,o.op≠ .defer c) (h:o.wp P a w K Q):o.wpIn (uW ro) 0 P a w K Q:=by
 refine⟨fun _ _=>trivial,?_⟩
 have e:o.semAt (uW ro).round a.eval=execOp a.eval o:=by
  show o.semAt ro a.eval=_
  rcases xm with rfl|xm
  ·rfl
  ·exact Oper.semAt_eq _ _ _ xm
 rw[e]
 unfold Oper.wp at h
 generalize (execOp a.eval o).run P w=r at*
 have hd:(uW ro).depth.isSome=true→1≤0:=fun h=>by cases h
 cases r with
 |ok x w'=>
  cases x<;>simp only[Oper.upon]at h<;>simp only[Oper.uponIn]<;>first
   |exact h
   |exact⟨hd,yV h⟩
   |exact⟨hd,KU h⟩
 |halt x w'=>cases x<;>simp only[Oper.upon]at h<;>simp only[Oper.uponIn]<;>exact h
theorem HI {ρ:Operand→Value} {o:Oper} {w w':World} {v:Value} (h:(execOp ρ o).run P w= .ok (.value v) w'):∀c,o.op≠ .defer c:=by
 intro c hc
 simp only[execOp,hc,Sem.run_bind]at h
 cases hr:(resolve ρ c o.type).run P w<;>rw[hr]at h<;>simp at h
theorem Bq {o:Oper} {a:Act} {w:World} (h:o.wp P a w (fun a' _=>a'.defers=a.defers) (fun _ _ _=>False)):∀c,o.op≠ .defer c:=by
 intro c hc
 unfold Oper.wp at h
 simp only[execOp,hc,Sem.run_bind]at h
 cases hr:(resolve a.eval c o.type).run P w with
 |ok d w'=>
  rw[hr]at h
  simp only[Result.andThen_ok,Sem.run_pure,Oper.upon_defer]at h
  have:(d::a.defers).length=a.defers.length:=by
   have e:=congrArg List.length h
   cases hd:o.dst<;>rw[hd]at e<;>exact e
  simp at this
 |halt x w'=>
  rw[hr]at h
  cases x<;>exact h
theorem put_defers (a:Act) (d:Option Tmp) (v:Value):(a.put d v).defers=a.defers:=by cases d<;>rfl
theorem cD.K5 {o:Oper} {v:Value} (iZ:cD P n w0 o E H v) {a:Act} {w:World} (s:fV n E a) (hs:Sat w0 w H) {K:Act→World→Prop} {Q:Exit→Act→World→Prop} (h:K (a.put o.dst v) w):o.wpIn (uW n.round) 0 P a w K Q:=by
 have e:=iZ a w s hs
 refine jB (.inr (HI e)) ?_
 unfold Oper.wp
 rw[e];exact h
theorem eM.K5 {o:Oper} {α:Type} {pre:af} {v:α→Value} {post:α→af} (iZ:eM P n w0 o E pre v post) (G:af) {a:Act} {w:World} {K:Act→World→Prop} {Q:Exit→Act→World→Prop} (s:fV n E a) (hs:Sat w0 w (pre*G)) (h:∀x w',Sat w0 w' (post x*G)→K (a.put o.dst (v x)) w'):o.wpIn (uW n.round) 0 P a w K Q:=
 jB (.inr (Bq (iZ G a w _ _ s hs fun x w' _=>put_defers _ _ _))) (iZ G a w K Q s hs h)
variable {ops:Array Oper} {l:List Oper} {o:Oper}
theorem pt {id:Nat} (h:LS P n w0 l.toArray Q l σ):WS P n w0 (.region id l.toArray false) Q σ:=fun a w g=>wpIn_region_lit (h a w g)
theorem z7 (h:Q .normal σ):LS P n w0 ops Q [] σ:=fun a w g=>⟨σ,h,g⟩
def fO (ops:Array Oper) (E:Env) (o:Oper):Option (Bool×Bool):=
 match o.guard with
 |none=>some (true,true)
 |some (j,want)=>match (ops[j]?).bind (·.dst)with
  |some d=>match E.get d with
   |some (.bool c)=>some (c,want)
   |some (.tuple _)=>some (!want,want)
   |_=>none
  |none=>none
theorem kl {a:Act} (h:fV n E a) {c want:Bool} (hg:fO ops E o=some (c,want)):Region.wanted o (yielded ops a.tmps)=(c==want):=by
 unfold fO at hg
 unfold Region.wanted
 cases VX:o.guard with
 |none=>rw[VX]at hg;cases hg;rfl
 |some jw=>
  obtain⟨j,WJ⟩:=jw
  rw[VX]at hg
  simp only at hg ⊢
  cases hd:(ops[j]?).bind (·.dst)with
  |none=>rw[hd]at hg;cases hg
  |some d=>
   rw[hd]at hg
   simp only at hg
   cases hc:E.get d with
   |none=>rw[hc]at hg;cases hg
   |some v=>
    rw[hc]at hg
    cases v with
    |bool c'=>
     cases hg
     have hy:yielded ops a.tmps j=some c:=by
      have:=h.get d _ hc
      unfold yielded
      rw[hd]
      simp only[Option.bind_some]
      have bW:d<a.tmps.size:=by
       rcases Nat.lt_or_ge d a.tmps.size with bW|kQ
       ·exact bW
       ·simp[Array.getElem?_eq_none kQ,undef]at this
      simp[bW]at this ⊢
      rw[this]
     rw[hy];cases c<;>cases want<;>rfl
    |tuple xs=>
     cases hg
     have hy:yielded ops a.tmps j=none:=by
      have:=h.get d _ hc
      unfold yielded
      rw[hd]
      simp only[Option.bind_some]
      rcases Nat.lt_or_ge d a.tmps.size with bW|kQ
      ·simp[bW]at this ⊢
       rw[this]
      ·simp[Array.getElem?_eq_none kQ]
     rw[hy];cases want<;>rfl
    |_=>cases hg
theorem Qq {v:Value} (iZ:cD P n w0 o E H v) (hd:gC n o.dst=true) (hg:o.guard=none) (h:LS P n w0 ops Q l ⟨E.hJ o.dst v,D,H⟩):LS P n w0 ops Q (o::l) ⟨E,D,H⟩:=fun a w g=>
 wpListIn_plain hg fun K hK=>iZ.K5 g.dQ g.sat (hK _ _ (h _ _ ⟨g.dQ.hJ _ _ hd,by have:=g.defers;cases o.dst<;>exact this,g.sat⟩))
theorem lI {d:Nat} {op:Op} {ty:TypeId} {pos:String} {after:Array Edge} {v:Value} (iZ:cD P n w0 ⟨some d,op,ty,pos,after,none⟩ E H v) (hd:Nat.blt d n.tmps=true) (h:LS P n w0 ops Q l ⟨(d,v)::E,D,H⟩):LS P n w0 ops Q (⟨some d,op,ty,pos,after,none⟩::l) ⟨E,D,H⟩:=Qq iZ hd rfl h
theorem LQ {d:Nat} {op:Op} {ty:TypeId} {pos:String} {after:Array Edge} {v:Value} (iZ:∀_:Unit,cD P n w0 ⟨some d,op,ty,pos,after,none⟩ E H v) (hd:Nat.blt d n.tmps=true) (h:LS P n w0 ops Q l ⟨(d,v)::E,D,H⟩):LS P n w0 ops Q (⟨some d,op,ty,pos,after,none⟩::l) ⟨E,D,H⟩:=lI (iZ ()) hd h
theorem To {α:Type} {pre:af} {v:α→Value} {post:α→af} (iZ:eM P n w0 o E pre v post) (hH:H=pre*F) (hd:gC n o.dst=true) (hg:o.guard=none)
 (h:∀x,LS P n w0 ops Q l ⟨E.hJ o.dst (v x),D,post x*F⟩):LS P n w0 ops Q (o::l) ⟨E,D,H⟩:=fun a w g=>
 wpListIn_plain hg fun K hK=>iZ.K5 F g.dQ (g.sat.cast hH) fun x w' hs=>hK _ _ (h x _ _ ⟨g.dQ.hJ _ _ hd,by have:=g.defers;cases o.dst<;>exact this,hs⟩)
theorem IU {d:Option Tmp} {op:Op} {ty:TypeId} {pos:String} {after:Array Edge} {gu:Option (Nat×Bool)} {c want:Bool} (hg:fO ops E ⟨d,op,ty,pos,after,gu⟩=some (c,want)) (hd:gC n d=true)
 (h1:c=want→LS P n w0 ops Q (⟨d,op,ty,pos,after,none⟩::l) ⟨E,D,H⟩) (h2:c= !want→LS P n w0 ops Q l ⟨E.hJ d undef,D,H⟩):LS P n w0 ops Q (⟨d,op,ty,pos,after,gu⟩::l) ⟨E,D,H⟩:=fun a w g=>by
 have hw:=kl g.dQ hg
 unfold wpListIn
 by_cases e:c=want
 ·have Hr:Region.wanted (⟨d,op,ty,pos,after,gu⟩:Oper) (yielded ops a.tmps)=true:=by rw[hw,e];simp
  rw[if_pos Hr]
  have:=h1 e a w g
  unfold wpListIn at this
  rw[if_pos (by rfl)]at this
  exact this
 ·have Hr:¬Region.wanted (⟨d,op,ty,pos,after,gu⟩:Oper) (yielded ops a.tmps)=true:=by rw[hw];simpa using e
  rw[if_neg Hr]
  exact⟨fun _ _=>trivial,h2 (by cases c<;>cases want<;>simp_all) _ _ ⟨g.dQ.hJ _ _ hd,by have:=g.defers;cases d<;>exact this,g.sat⟩⟩
theorem vG {d j:Nat} {op:Op} {ty:TypeId} {pos:String} {after:Array Edge} {b c want:Bool} (hg:fO ops E ⟨some d,op,ty,pos,after,some (j,b)⟩=some (c,want)) (hd:Nat.blt d n.tmps=true)
 (h1:c=want→LS P n w0 ops Q (⟨some d,op,ty,pos,after,none⟩::l) ⟨E,D,H⟩) (h2:c= !want→LS P n w0 ops Q l ⟨(d,undef)::E,D,H⟩):LS P n w0 ops Q (⟨some d,op,ty,pos,after,some (j,b)⟩::l) ⟨E,D,H⟩:=IU hg hd h1 h2
theorem IW {d j dj:Nat} {op:Op} {ty:TypeId} {pos:String} {after:Array Edge} {c want:Bool} (hj:(ops[j]?).bind (·.dst)=some dj) (hc:E.get dj=some (.bool c)) (hl:Lit c want) (hd:Nat.blt d n.tmps=true) (h:LS P n w0 ops Q (⟨some d,op,ty,pos,after,none⟩::l) ⟨E,D,H⟩):
 LS P n w0 ops Q (⟨some d,op,ty,pos,after,some (j,want)⟩::l) ⟨E,D,H⟩:=vG (c:=want) (want:=want) (by simp only[fO,hj,hc,hl.eq]) hd (fun _=>h) (fun e=>by cases want<;>cases e)
theorem IT {d j dj:Nat} {op:Op} {ty:TypeId} {pos:String} {after:Array Edge} {c want:Bool} (hj:(ops[j]?).bind (·.dst)=some dj) (hc:E.get dj=some (.bool c)) (hl:Lit c (!want)) (hd:Nat.blt d n.tmps=true) (h:LS P n w0 ops Q l ⟨(d,undef)::E,D,H⟩):
 LS P n w0 ops Q (⟨some d,op,ty,pos,after,some (j,want)⟩::l) ⟨E,D,H⟩:=vG (c:= !want) (want:=want) (by simp only[fO,hj,hc,hl.eq]) hd (fun e=>by cases want<;>cases e) (fun _=>h)
theorem IX {d j dj:Nat} {op:Op} {ty:TypeId} {pos:String} {after:Array Edge} {want:Bool} {xs:Array Value} (hj:(ops[j]?).bind (·.dst)=some dj) (hc:E.get dj=some (.tuple xs)) (hd:Nat.blt d n.tmps=true) (h:LS P n w0 ops Q l ⟨(d,undef)::E,D,H⟩):
 LS P n w0 ops Q (⟨some d,op,ty,pos,after,some (j,want)⟩::l) ⟨E,D,H⟩:=vG (c:= !want) (want:=want) (by simp only[fO,hj,hc]) hd (fun e=>by cases want<;>cases e) (fun _=>h)
theorem IV {d j dj:Nat} {op:Op} {ty:TypeId} {pos:String} {after:Array Edge} {c want:Bool} (hj:(ops[j]?).bind (·.dst)=some dj) (hc:E.get dj=some (.bool c)) (hd:Nat.blt d n.tmps=true)
 (h1:c=want→LS P n w0 ops Q (⟨some d,op,ty,pos,after,none⟩::l) ⟨(dj,.bool want)::E,D,H⟩) (h2:c= !want→LS P n w0 ops Q l ⟨(d,undef)::(dj,.bool (!want))::E,D,H⟩):LS P n w0 ops Q (⟨some d,op,ty,pos,after,some (j,want)⟩::l) ⟨E,D,H⟩:=by
 have ob:∀(b:Bool),c=b→∀a w,Good n w0 ⟨E,D,H⟩ a w→Good n w0 ⟨(dj,.bool b)::E,D,H⟩ a w:=fun b hb a w g=>⟨⟨g.dQ.size,fun t v ht=>by
  rw[Env.jV]at ht
  split at ht
  ·rename_i e;subst e;cases ht;exact g.dQ.get dj _ (by rw[hc,hb])
  ·exact g.dQ.get t v ht⟩,g.defers,g.sat⟩
 refine vG (c:=c) (want:=want) (by simp only[fO,hj,hc]) hd (fun e a w g=>h1 e a w (ob _ e a w g)) (fun e a w g=>h2 e a w ?_)
 refine⟨⟨g.dQ.size,fun t v ht=> ?_⟩,g.defers,g.sat⟩
 rw[Env.jV]at ht
 split at ht
 ·rename_i e1;subst e1;cases ht;exact g.dQ.get d _ (by rw[Env.jV,if_pos rfl])
 ·rename_i e1
  rw[Env.jV]at ht
  split at ht
  ·rename_i e2;subst e2;cases ht
   exact g.dQ.get dj _ (by rw[Env.jV,if_neg e1,hc,e])
  ·exact g.dQ.get t v (by rw[Env.jV,if_neg e1];exact ht)
end
section
open Go.RowKit
def AH:List Value→Nat→Option Value
 |[],_=>none
 |v::_,0=>some v
 |_::r,i+1=>AH r i
def Vi:List Value→Nat→Value→Option (List Value)
 |[],_,_=>none
 |_::r,0,v=>some (v::r)
 |a::r,i+1,v=>match Vi r i v with
  |some r'=>some (a::r')
  |none=>none
def zn:List Value→Nat→Option (List Value)
 |_,0=>some []
 |[],_+1=>none
 |v::r,k+1=>match zn r k with
  |some r'=>some (v::r')
  |none=>none
def Dq:List Value→Nat→Nat→Option (List Value)
 |cs,0,k=>zn cs k
 |[],_+1,_=>none
 |_::r,i+1,k=>Dq r i k
def zJ:List Value→List Value→Option (List Value)
 |cs,[]=>some cs
 |[],_::_=>none
 |_::r,v::vs=>match zJ r vs with
  |some r'=>some (v::r')
  |none=>none
def iW:List Value→Nat→List Value→Option (List Value)
 |cs,0,vs=>zJ cs vs
 |[],_+1,_=>none
 |a::r,i+1,vs=>match iW r i vs with
  |some r'=>some (a::r')
  |none=>none
theorem rT:∀(cs:List Value) (i:Nat),AH cs i=cs[i]?
 |[],i=>by simp[AH]
 |v::r,0=>rfl
 |v::r,i+1=>by simp[AH,rT r i]
theorem Cd:∀{cs:List Value} {k:Nat} {r:List Value},zn cs k=some r→k≤cs.length∧r=cs.take k
 |cs,0,_,h=>by cases cs<;>cases h<;>simp
 |[],_+1,_,h=>by cases h
 |v::cs,k+1,r,h=>by
  simp only[zn]at h
  cases hr:zn cs k with
  |none=>rw[hr]at h;cases h
  |some r'=>rw[hr]at h;cases h;obtain⟨h1,h2⟩:=Cd hr;simp[h2];exact h1
theorem yh:∀{cs:List Value} {i k:Nat} {r:List Value},Dq cs i k=some r→i+k≤cs.length∧r=(cs.drop i).take k
 |cs,0,k,r,h=>by
  have h':zn cs k=some r:=by cases cs<;>exact h
  simpa using Cd h'
 |[],_+1,_,_,h=>by cases h
 |_::cs,i+1,k,r,h=>by
  have:=yh (cs:=cs) h
  exact⟨by simp;omega,by simpa using this.2⟩
theorem CW:∀{cs vs r:List Value},zJ cs vs=some r→vs.length≤cs.length∧r=vs++cs.drop vs.length
 |cs,[],_,h=>by cases cs<;>cases h<;>simp
 |[],_::_,_,h=>by cases h
 |_::cs,v::vs,r,h=>by
  simp only[zJ]at h
  cases hr:zJ cs vs with
  |none=>rw[hr]at h;cases h
  |some r'=>rw[hr]at h;cases h;obtain⟨h1,h2⟩:=CW hr;simp[h2];exact h1
theorem np:∀{cs:List Value} {i:Nat} {vs r:List Value},iW cs i vs=some r→i+vs.length≤cs.length∧r=cs.take i++vs++cs.drop (i+vs.length)
 |cs,0,vs,r,h=>by
  have h':zJ cs vs=some r:=by cases cs<;>exact h
  simpa using CW h'
 |[],_+1,_,_,h=>by cases h
 |a::cs,i+1,vs,r,h=>by
  simp only[iW]at h
  cases hr:iW cs i vs with
  |none=>rw[hr]at h;cases h
  |some r'=>
   rw[hr]at h;cases h;obtain⟨h1,h2⟩:=np hr
   refine⟨by simp;omega,?_⟩
   rw[h2,show i+1+vs.length=(i+vs.length)+1 by omega];simp
def aK (g:Nat) (t:TypeId) (cs:List Value):af:=Oc g t cs.toArray
class cZ (H:af) (g:Nat) (t:outParam TypeId) (cs:outParam (List Value)) (F:outParam af):Prop where
 eq:H=aK g t cs*F
instance Pf (g:Nat) (t:TypeId) (cs:List Value) (F:af):cZ (aK g t cs*F) g t cs F:=⟨rfl⟩
instance (priority:=low) Ph (X H F:af) (g:Nat) (t:TypeId) (cs:List Value) [h:cZ H g t cs F]:cZ (X*H) g t cs (X*F):=⟨by rw[h.eq,aM]⟩
instance (priority:=low) Pg (X H F:af) (g:Nat) (t:TypeId) (cs:List Value) [h:cZ X g t cs F]:cZ (X*H) g t cs (F*H):=⟨by rw[h.eq,ad]⟩
class Tp {α:Type} (H:af) (p:α→af) (x:outParam α) (F:outParam af):Prop where
 eq:H=p x*F
instance Qg {α:Type} (p:α→af) (x:α) (F:af):Tp (p x*F) p x F:=⟨rfl⟩
class eN (P:Program) (t:TypeId) (d:outParam TypeDesc):Prop where
 eq:P.underlying t=some d
def sG:Option TypeDesc→Bool
 |some (.struct _)|some (.array _ _)|none=>false
 |_=>true
class fi (P:Program) (t:TypeId):Prop where
 ok:sG (P.underlying t)=true
 size:(P.info? t).map (·.size)=some 1
def L3:Option TypeDesc→Bool
 |some (.struct _)|some (.array _ _)=>true
 |_=>false
class mN (P:Program) (t:TypeId) (size:outParam Nat):Prop where
 ok:L3 (P.underlying t)=true
 size:(P.info? t).map (·.size)=some size
def jn:Value→List Value
 | .agg cs=>cs.toList
 |v=>[v]
theorem gX (v:Value):v.cells=(jn v).toArray:=by cases v<;>simp[Value.cells,jn]
class Zero (P:Program) (t:TypeId) (z:outParam Value) (zs:outParam (List Value)):Prop where
 eq:(P.info? t).map (·.zero)=some (some z)
 cells:jn z=zs
def AA (P:Program) (s k:Nat):Option (Nat×TypeId×Nat):=
 match P.underlying s with
 |some (.struct fs)=>match fs[k]? with
  |some f=>match P.info? f.type with
   |some i=>some (f.offset,f.type,i.size)
   |none=>none
  |none=>none
 |_=>none
class eo (P:Program) (s k:Nat) (off:outParam Nat) (t:outParam TypeId):Prop where
 eq:∃size,AA P s k=some (off,t,size+1)
variable {P:Program} {n:fT} {w0:World} {E:Env} {D:List Deferred} {H F:af} {ops:Array Oper} {l:List Oper} {Q:Exit→St→Prop} {w:World}
@[reducible] def ptr (g off:Nat):Value:= .pointer (some ⟨g,off,none⟩)
section quiet
variable {d:Option Tmp} {ty:TypeId} {pos:String} {after:Array Edge} {gu:Option (Nat×Bool)} {x y:Operand} {v u:Value}
theorem bC (h:E.ev x=some v):cD P n w0 ⟨d,.move x,ty,pos,after,gu⟩ E H v:=fun a w s hs=>by
 simp only[execOp,s.ev h];rfl
theorem kC (h:E.ev x=some v):cD P n w0 ⟨d,.assign x,ty,pos,after,gu⟩ E H v:=fun a w s hs=>by
 simp only[execOp,s.ev h];rfl
theorem BE {c:Operand} {b:Bool} (hc:E.ev c=some (.bool b)) (hl:Lit b true) (h1:E.ev x=some v):cD P n w0 ⟨d,.pick c x y,ty,pos,after,gu⟩ E H v:=fun a w s hs=>by
 cases hl.eq
 simp only[execOp,s.ev hc,s.ev h1,asBool]
 simp
theorem BD {c:Operand} {b:Bool} (hc:E.ev c=some (.bool b)) (hl:Lit b false) (h1:E.ev y=some v):cD P n w0 ⟨d,.pick c x y,ty,pos,after,gu⟩ E H v:=fun a w s hs=>by
 cases hl.eq
 simp only[execOp,s.ev hc,s.ev h1,asBool]
 simp
theorem db {a0:Addr} (h:E.ev x=some (.pointer (some a0))):cD P n w0 ⟨d,.nilCheck x,ty,pos,after,gu⟩ E H (.pointer (some a0)):=fun a w s hs=>by
 simp only[execOp,s.ev h];rfl
theorem GI {vs:List Value} {k:Nat} (h:E.ev x=some (.tuple vs.toArray)) (hv:AH vs k=some v):cD P n w0 ⟨d,.extract x k,ty,pos,after,gu⟩ E H v:=fun a w s hs=>by
 rw[rT]at hv
 simp[execOp,s.ev h,Instr.extract,hv]
theorem DE {fn:Fn} {xs ys:List Operand} {vs us:List Value} (h1:E.mU xs=some vs) (h2:E.mU ys=some us):cD P n w0 ⟨d,.makeFunc fn xs.toArray ys.toArray,ty,pos,after,gu⟩ E H (.func fn vs.toArray us.toArray):=fun a w s hs=>by
 have e1:=s.mU h1
 have e2:=s.mU h2
 simp[execOp,Instr.makeFunc,e1,e2]
class dL (P:Program) (op:BinOp) (t:TypeId) (x y:Value) (r:outParam Value):Prop where
 run:∀w,(binOp op t x y).run P w= .ok r w
 guard:∀w (a b:Operand),(eqGuard op t a b x y).run P w= .ok () w
theorem bE {op:BinOp} {t t2:TypeId} (hx:E.ev x=some v) (hy:E.ev y=some u) {r:Value} (h:dL P op t v u r):cD P n w0 ⟨d,.binOp op t x y t2,ty,pos,after,gu⟩ E H r:=fun a w s hs=>by
 simp[execOp,s.ev hx,s.ev hy,h.guard,h.run]
theorem bp {op:BinOp} {t t2:TypeId} (hx:E.ev x=some v) (hy:E.ev y=some u) {q:Prop} {inst:Decidable q} (h:dL P op t v u (.bool (decide q))) (hq:q):cD P n w0 ⟨d,.binOp op t x y t2,ty,pos,after,gu⟩ E H (.bool true):=by
 have:=bE (n:=n) (w0:=w0) (H:=H) (d:=d) (ty:=ty) (pos:=pos) (after:=after) (gu:=gu) (t2:=t2) hx hy h
 rwa[decide_eq_true hq]at this
theorem bH {op:BinOp} {t t2:TypeId} (hx:E.ev x=some v) (hy:E.ev y=some u) {q:Prop} {inst:Decidable q} (h:dL P op t v u (.bool (decide q))) (hq:¬q):cD P n w0 ⟨d,.binOp op t x y t2,ty,pos,after,gu⟩ E H (.bool false):=by
 have:=bE (n:=n) (w0:=w0) (H:=H) (d:=d) (ty:=ty) (pos:=pos) (after:=after) (gu:=gu) (t2:=t2) hx hy h
 rwa[decide_eq_false hq]at this
theorem fC {op:BinOp} {t t2:TypeId} (hx:E.ev x=some v) (hy:E.ev y=some u) {q:Prop} {inst:Decidable q} (h:dL P op t v u (.bool (!decide q))) (hq:¬q):cD P n w0 ⟨d,.binOp op t x y t2,ty,pos,after,gu⟩ E H (.bool true):=by
 have:=bE (n:=n) (w0:=w0) (H:=H) (d:=d) (ty:=ty) (pos:=pos) (after:=after) (gu:=gu) (t2:=t2) hx hy h
 rwa[decide_eq_false hq]at this
theorem du {op:BinOp} {t t2:TypeId} (hx:E.ev x=some v) (hy:E.ev y=some u) {q:Prop} {inst:Decidable q} (h:dL P op t v u (.bool (!decide q))) (hq:q):cD P n w0 ⟨d,.binOp op t x y t2,ty,pos,after,gu⟩ E H (.bool false):=by
 have:=bE (n:=n) (w0:=w0) (H:=H) (d:=d) (ty:=ty) (pos:=pos) (after:=after) (gu:=gu) (t2:=t2) hx hy h
 rwa[decide_eq_true hq]at this
class Qv (P:Program) (op:UnOp) (x:Value) (r:outParam Value):Prop where
 run:∀w,(Op.unary op x).run P w= .ok r w
theorem Tq {op:UnOp} {t:TypeId} (hx:E.ev x=some v) {r:Value} (h:Qv P op v r):cD P n w0 ⟨d,.unOp op t x,ty,pos,after,gu⟩ E H r:=fun a w s hs=>by
 simp[execOp,s.ev hx,h.run]
theorem vu (w:World) {s k g off o:Nat} {t:TypeId} (h:eo P s k o t):(Instr.fieldAt s (ptr g off) k).run P w= .ok (ptr g (off+o)) w:=by
 obtain⟨size,h⟩:=h.eq
 unfold AA at h
 split at h
 ·rename_i fs hu
  split at h
  ·rename_i f hf
   split at h
   ·rename_i i hi
    simp only[Option.some.injEq,Prod.mk.injEq]at h
    obtain⟨h1,h2,rZ⟩:=h
    subst h1
    have Ef:(⟨g,off,none⟩:Addr).add f.offset=⟨g,off+f.offset,none⟩:=add_lit g off f.offset
    simp[Instr.fieldAt,run_underlying hu,hf,Instr.sureAddr,fieldPlace,sizeOf,typeInfo,hi,rZ,Ef]
   ·cases h
  ·cases h
 ·cases h
theorem bq {s k g off o r:Nat} {t:TypeId} (hx:E.ev x=some (ptr g off)) (h:eo P s k o t) (hr:off+o=r):cD P n w0 ⟨d,.fieldAddr s x k,ty,pos,after,gu⟩ E H (ptr g r):=fun a w se hs=>by
 subst hr
 simp[execOp,se.ev hx,vu w h]
theorem cm {t bt:TypeId} {g off:Nat} {cs:List Value} (hx:E.ev x=some (ptr g off)) (hl:cZ H g bt cs F) (ht:fi P t) (hv:AH cs off=some v):cD P n w0 ⟨d,.load t x,ty,pos,after,gu⟩ E H v:=fun a w s hs=>by
 have hc:=Sat.cell (hs.cast hl.eq) off
 rw[rT]at hv
 have hd:=ht.ok
 obtain⟨dd,sX⟩:∃dd,P.underlying t=some dd:=by
  cases hu:P.underlying t with
  |none=>rw[hu]at hd;cases hd
  |some dd=>exact⟨dd,rfl⟩
 rw[sX]at hd
 have tJ:(isAgg t).run P w= .ok false w:=by
  simp only[isAgg,Sem.run_bind,run_underlying sX,Result.andThen_ok]
  cases dd<;>simp_all [sG]
 simp[execOp,s.ev hx,Instr.loadAt,Instr.sureAddr,loadVar,tJ,hc,hv]
theorem kZ {t bt:TypeId} {g off size:Nat} {cs vs:List Value} (hx:E.ev x=some (ptr g off)) (hl:cZ H g bt cs F) (ht:mN P t size) (hv:Dq cs off size=some vs):cD P n w0 ⟨d,.load t x,ty,pos,after,gu⟩ E H (.agg vs.toArray):=fun a w s hs=>by
 obtain⟨hle,Mt⟩:=yh hv
 have hlen:vs.length=size:=by rw[Mt];simp;omega
 have hc:∀j u,vs[j]? =some u→w.cell? ((⟨g,off,none⟩:Addr).add j)=some u:=fun j u hu=>by
  have hj:j<size:=by rw[←hlen];exact(List.getElem?_eq_some_iff.1 hu).1
  rw[add_lit,Sat.cell (hs.cast hl.eq)]
  rw[Mt,List.getElem?_take,if_pos hj,List.getElem?_drop]at hu
  simpa using hu
 have hd:=ht.ok
 obtain⟨dd,sX⟩:∃dd,P.underlying t=some dd:=by
  cases hu:P.underlying t with
  |none=>rw[hu]at hd;cases hd
  |some dd=>exact⟨dd,rfl⟩
 rw[sX]at hd
 have tJ:(isAgg t).run P w= .ok true w:=by
  simp only[isAgg,Sem.run_bind,run_underlying sX,Result.andThen_ok]
  cases dd<;>simp_all [L3]
 obtain⟨i,hi,uZ⟩:=Option.map_eq_some_iff.1 ht.size
 have hz:(sizeOf t).run P w= .ok size w:=by simp[sizeOf,typeInfo,hi,uZ]
 have hr:=run_loadCells_list (P:=P) (w:=w) ⟨g,off,none⟩ vs hc
 rw[hlen]at hr
 simp[execOp,s.ev hx,Instr.loadAt,Instr.sureAddr,loadVar,tJ,hz,hr]
theorem LR {t ft:TypeId} {k off:Nat} {cs:List Value} (hx:E.ev x=some (.agg cs.toArray)) (h:eo P t k off ft) (hs:fi P ft) (hv:AH cs off=some v):cD P n w0 ⟨d,.field t x k,ty,pos,after,gu⟩ E H v:=fun a w se eI=>by
 obtain⟨size,h⟩:=h.eq
 rw[rT]at hv
 have hd:=hs.ok
 obtain⟨dd,sX⟩:∃dd,P.underlying ft=some dd:=by
  cases hu:P.underlying ft with
  |none=>rw[hu]at hd;cases hd
  |some dd=>exact⟨dd,rfl⟩
 rw[sX]at hd
 have tJ:(isAgg ft).run P w= .ok false w:=by
  simp only[isAgg,Sem.run_bind,run_underlying sX,Result.andThen_ok]
  cases dd<;>simp_all [sG]
 unfold AA at h
 split at h
 ·rename_i fs hu
  split at h
  ·rename_i f hf
   split at h
   ·rename_i i hi
    simp only[Option.some.injEq,Prod.mk.injEq]at h
    obtain⟨h1,h2,h3⟩:=h
    subst h1;subst h2
    simp[execOp,se.ev hx,Instr.field,run_underlying hu,hf,asAgg,part,tJ,hv]
   ·cases h
  ·cases h
 ·cases h
theorem kX {src t:TypeId} {q k:IntKind} {m r:Int} {ds:TypeDesc} (hx:E.ev x=some (.int q m)) (hs:eN P src ds) (hd:eN P t (.int k)) (hr:k.wrap m=r):cD P n w0 ⟨d,.convert src t x,ty,pos,after,gu⟩ E H (.int k r):=fun a w s eI=>by
 subst hr
 simp[execOp,s.ev hx,convert,run_underlying hs.eq,run_underlying hd.eq,Conv.intToInt]
theorem M4 {t e:TypeId} {A:Option Addr} {m c:Nat} (hx:E.ev x=some (.slice A m c)) (ht:eN P t (.slice e)):cD P n w0 ⟨d,.call ⟨.builtin .len,#[x],#[t]⟩,ty,pos,after,gu⟩ E H (.int .i64 (m:Int)):=fun a w s hs=>by
 simp[execOp,resolve,invoke,builtin,s.ev hx,Builtin.len_,run_underlying ht.eq,goInt]
theorem GJ {t:TypeId} {b:ByteArray} (hx:E.ev x=some (.string b)) (ht:eN P t .string):cD P n w0 ⟨d,.call ⟨.builtin .len,#[x],#[t]⟩,ty,pos,after,gu⟩ E H (.int .i64 (b.size:Int)):=fun a w s hs=>by
 simp[execOp,resolve,invoke,builtin,s.ev hx,Builtin.len_,run_underlying ht.eq,goInt]
theorem M5 {k k2:IntKind} {p q:Int} {ts:Array TypeId} (hx:E.ev x=some (.int k p)) (hy:E.ev y=some (.int k2 q)):cD P n w0 ⟨d,.call ⟨.builtin .max,#[x,y],ts⟩,ty,pos,after,gu⟩ E H (.int k (if q>p then q else p)):=fun a w s hs=>by
 simp[execOp,resolve,invoke,builtin,s.ev hx,s.ev hy,Builtin.max_,Builtin.max2]
theorem Qt {k k2:IntKind} {p q:Int} {ts:Array TypeId} (hx:E.ev x=some (.int k p)) (hy:E.ev y=some (.int k2 q)):cD P n w0 ⟨d,.call ⟨.builtin .min,#[x,y],ts⟩,ty,pos,after,gu⟩ E H (.int k (if q<p then q else p)):=fun a w s hs=>by
 simp[execOp,resolve,invoke,builtin,s.ev hx,s.ev hy,Builtin.min_,Builtin.min2]
end quiet
end
end Go.Proofs.YtapoehkdnglahabGreat

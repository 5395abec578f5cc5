/- THE EVALUATOR: a deterministic reading of the program's code over an abstract heap, and that the model does what it says (6). Conditions: none beyond each theorem's own. -/
import Derived.Test.YthjlppdnlahhoaaGreatZE
import Derived.Shelf.Strconv.Itoa2
import Derived.Lib.ItoaNum
import Derived.Lib.ItoaMem
import Derived.Lib.SplitLaws
import Derived.Lib.IndexBytes
import Derived.Lib.CountLaws
import Derived.Laws.RangeString
set_option linter.unusedSimpArgs false
set_option linter.unusedVariables false
namespace Go.Ev
open Go.RowKit
section
variable {P:Program}
def kz (k:FuncId) (g:List Value→ak→Option Value) (base:Fc) (f:FuncId) (args:List Value) (h:ak):Option (Option (Value×ak)) :=
 cond (Nat.beq f k) (some ((g args h).map (·,h))) (base f args h)
theorem xm {ng k:Nat}{g:List Value→ak→Option Value}{base:Fc}(h0:ji P (iW P ng base)) {fn:Func}{c:Code}(hf:P.funcs[k]?=some fn) (hb:fn.body=some c) (hn:jt P)
  (hk:∀ args h v,g args h=some v→∀ (ρ:Ren) (w:World) (args':Array Value),HR P ρ h w→(∀ i,i<ng→∃ c,ρ i=some (i,c))→eW ρ args args'.toList →
   Calls P k args' w fun e w'=>∃ v',e=.returned v'∧VR ρ v v'∧Below w.heap.size w w'):ji P (iW P ng (kz k g base)):=by
 intro f args h v h' e ρ w args' hr hg ra
 simp only[iW,kz,bF]at e
 by_cases hfk:f=k
 ·subst hfk;rw[if_pos rfl]at e;simp only[aS,aY,bA]at e;obtain⟨u,e,rfl,rfl⟩:=e;refine .inr (.inl ⟨f,args',kj hf hn hb args' w,(hk args _ _ e ρ w args' hr (fun i hi=>hg i hi) ra).mono fun e w' hh=>?_⟩);obtain⟨v',rfl,r,hbl⟩:=hh;exact⟨v',ρ,rfl,r,dG.Fb hr hbl⟩
 ·rw[if_neg hfk]at e;exact h0 f args h v h' e ρ w args' hr hg ra
theorem GV {E:Env}{k:FuncId}{g:List Value→ak→Option Value}{base:Fc}{args:List Value}{h:ak}{K:Value→ak→Prop}{v:Value}(he:E.ext k args h=kz k g base k args h) (hg:g args h=some v) (q:K v h):cy E (.func k) args h K:=by refine cy.ext (v:=v) ?_ q;rw[he];simp only[kz,db,cond_true,hg,bS]
end
open Go.RowKit
section
variable {P:Program}
end
section
variable {E:Env}{t t':TypeId}{c:Bool}{h:ak}
section
variable {J:Value→Prop}{a b:Nat}
end
def bK (b:UInt8):Value:=.int .u8 (b.toNat:Int)
theorem P4 (l:List UInt8):(⟨l.toArray⟩:ByteArray).size=l.length:=by simp[ByteArray.size]
end
open Go.RowKit
section
variable {P:Program}
end
section
variable {E:Env}{fr:Fr}{h:ak}{x:Operand}{t t':TypeId}
end
open Go.RowKit
section
variable {P:Program}
end
theorem y1 {p A B:Prop}(a:A) (hp:p):lW p A B:=Jo hp a
theorem y2 {p A B:Prop}(b:B) (hp:¬p):lW p A B:=Qd hp b
theorem y3 {p A B:Prop}(a:p→A) (b:¬p→B):lW p A B:=FZ a b
theorem y4 {p q A:Prop}(a:A) (hp:p) (hq:q):(p∧q)∧A:=⟨⟨hp,hq⟩,a⟩
theorem y5 {p A:Prop}(a:A) (hp:p):p∧A:=⟨hp,a⟩
theorem y6 {l:List Value}{A:Prop}(a:A) (hp:l.all aE=true):l.all aE=true∧A:=⟨hp,a⟩
theorem y7 {n:Nat}{cs l:List Value}{e:TypeId}{b:Bool}{h:ak}{K:Value→ak→Prop}(k:K undef (ai h (.cells l e b))) (hc:(Nat.beq l.length n&&Nat.beq cs.length n&&l.all aE&&!Nat.beq n 0)=true) :
  jQ n (.pointer (some ⟨h.n,0,none⟩)) (.agg ⟨l⟩) (ai h (.cells cs e b)) K:=Kd hc k
theorem y8 {e:TypeId}{sz:Nat}{zs:List Value}{v:Value}{h:ak}{K:Value→ak→Prop}(k:K (.slice (some ⟨h.n,0,none⟩) 1 1) (ai h (.cells v.cells.toList e true))) (hc:(Nat.beq v.cells.toList.length sz&&Nat.beq zs.length sz&&!Nat.beq sz 0)=true):vX e sz zs 1 [(0,v)] h K:=J4 hc k
theorem y9 {zs l:List Value}{pl:List (Nat×Nat)}{ps:List (Nat×Value)}{K:Value→Prop}(k:K (.agg ⟨l⟩)) (hf:iV (nth pl) zs ps=some l):yb zs pl ps K:=WO hf k
open Go.RowKit
section
variable {P:Program}
def l_:ak:={ n:=0,b:=.leaf }
def FK {α:Type}:Option α→Bool
 | none=>true
 | some _=>false
noncomputable def wX (E0:Env) (d:Nat) (f:FuncId) (l:List Value):Option Value :=
 cond (l.all fW&&FK (E0.ext f l l_)) (match dN E0 d (.func f) l l_ with
  | some (v,_)=>cond (fW v) (some v) none
  | none=>none) none
noncomputable def quiet (E E0:Env) (d:Nat) (q:FuncId→Bool):Env:={ E with qf:=q,qc:=wX E0 d }
theorem eW.mI {ρ:Ren}:∀ {l l':List Value},l.all lK=true→eW ρ l l'→l'=l
 | _,_,_,.nil=>rfl
 | _,_,h,.cons r t=>by simp only[hY,aZ]at h;rw[VR.mI h.1 r,eW.mI h.2 t]
theorem VR.sL {ρ:Ren}{v v':Value}(h:fW v=true) (r:VR ρ v v'):v'=v:=by
 unfold fW at h;split at h
 ·rename_i cs;cases r with
  | agg _ xs' hr=>obtain⟨xs⟩:=xs';obtain⟨cs⟩:=cs;simp only at hr h;rw[eW.mI h hr]
 ·rename_i cs;cases r with
  | tuple _ xs' hr=>obtain⟨xs⟩:=xs';obtain⟨cs⟩:=cs;simp only at hr h;rw[eW.mI h hr]
 ·exact VR.mI h r
theorem eW.sL {ρ:Ren}:∀ {l l':List Value},l.all fW=true→eW ρ l l'→l'=l
 | _,_,_,.nil=>rfl
 | _,_,h,.cons r t=>by simp only[hY,aZ]at h;rw[VR.sL h.1 r,eW.sL h.2 t]
theorem eW.const (ρ:Ren):∀ {l:List Value},l.all fW=true→eW ρ l l
 | [],_=>.nil
 | v::l,h=>by simp only[hY,aZ]at h;exact .cons (VR.const ρ h.1) (eW.const ρ h.2)
theorem GG {E:Env}{d:Nat}{f:FuncId}{l:List Value}{h:ak}{r:Value×ak}(hx:E.ext f l h=none) (e:dN E d (.func f) l h=some r):∃ fn c,E.vQ.get f=some fn∧fn.body=some c:=by
 cases d with
 | zero=>cases e
 | succ d =>
   simp only[dN,hx]at e
   split at e
   · cases e
   · rename_i fn hfn;split at e;· cases e
     · rename_i c hc;exact⟨fn,c,hfn,hc⟩
theorem EO {E E0:Env}(hE:bJ P E) (hE0:bJ P E0) (hx0:ji P E0) (hn:jt P) (hg:E0.ng=0) (d:Nat) (q:FuncId→Bool):bJ P (quiet E E0 d q):=by
 refine⟨hE.qh,hE.vQ,hE.mixed,hE.XG,fun f l v _ e ρ w args' ra=>?_⟩;simp only[quiet,wX]at e;cases hc:(l.all fW&&FK (E0.ext f l l_)) with
 | false=>rw[hc]at e;cases e
 | true =>
   rw[hc,cond_true]at e
   simp only[aZ]at hc
   have hext:E0.ext f l l_=none:=by
     cases he:E0.ext f l l_ with
     | none=>rfl
     | some r=>rw[he]at hc;exact absurd hc.2 (by simp[FK])
   split at e
   · rename_i u h' hcall;cases hv:fW u with
     | false=>rw[hv]at e;cases e
     | true =>rw[hv]at e;simp only[cond_true,aS]at e;subst e;obtain⟨fn,c,hfn,hb⟩:=GG hext hcall;have hargs:=eW.sL hc.1 ra;have hr:HR P (fun _=>none) l_ w:=⟨fun i b c e=>absurd e an,fun i b c e=>absurd e an,fun i j b c d e e'=>absurd e an⟩;refine⟨kj (hE0.vQ f fn hfn) hn hb args' w,?_⟩;refine(sI hE0 hx0 hn hext hcall hr (fun g aT=>ah) (by rw[hargs];exact eW.const _ hc.1)).mono fun e w' hh=>?_;obtain⟨v',ρ',rfl,r,hs⟩:=hh;rw[VR.sL hv r];exact⟨_,rfl,VR.const _ hv,hs.below fun i x e=>by cases e⟩
   · cases e
open Classical in
noncomputable def Ca (E0:Env) (f:FuncId) (l:List Value):Option Value :=
 if hd:∃ d,(wX E0 d f l).isSome=true then wX E0 (Classical.choose hd) f l else none
noncomputable def Pr (E E0:Env) (q:FuncId→Bool):Env:={ E with qf:=q,qc:=Ca E0 }
theorem Lj {E E0:Env}(hE:bJ P E) (hE0:bJ P E0) (hx0:ji P E0) (hn:jt P) (hg:E0.ng=0) (q:FuncId→Bool):bJ P (Pr E E0 q):=by
 refine⟨hE.qh,hE.vQ,hE.mixed,hE.XG,fun f l v hq e ρ w args' ra=>?_⟩;simp only[Pr,Ca]at e;split at e;·rename_i hd;exact(EO hE hE0 hx0 hn hg (Classical.choose hd) q).qc f l v hq e ρ w args' ra
 ·cases e
end
open Go.RowKit
section
variable {P:Program}
end
section
variable {E:Env}{fr:Fr}{h:ak}{K:Value→ak→Prop}{x y:Operand}{t t' s:TypeId}
def Xm (E:Env) (t:TypeId):Bool:=match b_ E t with
 | none|some (.interface _)|some .invalid=>false
 | _=>true
theorem uu (ht:Xm E t=true):fY E (.makeInterface t x) fr h K=dM E fr x fun v=>K (.iface t v) h:=by
 rw[fR rfl an];simp only[dZ,bR,dM,de];unfold Xm at ht;cases hu:b_ E t with
 | none=>rw[hu]at ht;cases ht
 | some d =>
   rw[hu]at ht
   cases ev E fr x with
   | none=>cases d<;>simp_all
   | some v=>cases d<;>simp_all
def Ue (t:TypeId) (z v:Value) (K:Value→Prop) [iJ K]:Prop:=match v with
 | .iface t' u=>cond (Nat.beq t' t) (K (.tuple #[u,.bool true])) (K (.tuple #[z,.bool false]))
 | .nilIface=>K (.tuple #[z,.bool false])
 | _=>False
def taOf (E:Env) (t:TypeId):Option Value:=match b_ E t with
 | none|some (.interface _)|some .invalid=>none
 | _=>zero E t
theorem rh {z:Value}(ht:taOf E t=some z):fY E (.typeAssert x s t true) fr h K=dM E fr x fun v=>Ue t z v fun u=>K u h:=by
 rw[fR rfl an];simp only[dZ,bR,dM,de];unfold taOf at ht;cases ev E fr x with
 | none=>simp
 | some v =>
   simp only[aS,exists_eq_left']
   have key:lQ E v t true=match v with
       | .nilIface=>some (.tuple #[z,.bool false])
       | .iface t' u=>some (cond (Nat.beq t' t) (.tuple #[u,.bool true]) (.tuple #[z,.bool false]))
       | _=>none:=by
     unfold lQ
     cases hu:b_ E t with
     | none=>rw[hu]at ht;cases ht
     | some d =>
       rw[hu]at ht
       cases d<;>first
         | (cases ht;done)
         | (simp only at ht
            cases v<;>simp only[ht,bS,cond_true]
            rename_i t' u
            cases Nat.beq t' t<;>rfl)
   rw[key]
   unfold Ue
   cases v with
   | iface t' u =>
     clear key
     simp only[aS,exists_eq_left']
     generalize Nat.beq t' t=b
     cases b<;>rfl
   | _=>simp
theorem Ur {z u:Value}{J:Value→Prop}:Ue t z (.iface t u) J=J (.tuple #[u,.bool true]):=by simp[Ue]
theorem ta_ne {z u:Value}{J:Value→Prop}(hne:t'≠t):Ue t z (.iface t' u) J=J (.tuple #[z,.bool false]):=by simp[Ue,bF,hne]
theorem abQ {z:Value}{J:Value→Prop}:Ue t z .nilIface J=J (.tuple #[z,.bool false]):=rfl
end
section
variable {E:Env}{fr:Fr}{h:ak}{K:Value→ak→Prop}{x y:Operand}{t:TypeId}
def isStr (E:Env) (t:TypeId):Bool:=match b_ E t with|some .string=>true|_=>false
theorem LW (ht:isStr E t=true):b_ E t=some .string:=by
 unfold isStr at ht;split at ht;·assumption
 ·cases ht
end
section
variable {E:Env}
def xj:Nat→Code→Option Code
 | 0,c=>some c
 | k+1,.seq _ b=>xj k b
 | _,_=>none
noncomputable def AW (E:Env) (call:ui) (nt:Nat) (rd:Option Nat):Nat→Code→Fr→ak→Option (Fr×ak)
 | 0,_,fr,h=>some (fr,h)
 | k+1,.seq a b,fr,h=>match code E call nt rd a fr h with
   | some (.normal,fr,h)=>AW E call nt rd k b fr h
   | _=>none
 | _+1,_,_,_=>none
theorem Cr {nt:Nat}{rd:Option Nat}{Q:Ex→Fr→ak→Prop}{d:Nat}:∀ {k:Nat}{c b:Code}{fr fr1:Fr}{h h1:ak},AW E (dN E d) nt rd k c fr h=some (fr1,h1)→xj k c=some b→WP E nt rd b fr1 h1 Q→WP E nt rd c fr h Q
 | 0,c,b,fr,fr1,h,h1,e,ht,w=>by simp only[AW,aS,bA]at e;simp only[xj,aS]at ht;obtain⟨rfl,rfl⟩:=e;subst ht;exact w
 | k+1,.seq a c,b,fr,fr1,h,h1,e,ht,w=>by
   simp only[AW]at e;split at e;· rename_i fr2 h2 e2;obtain⟨d2,ex,fr',h',e3,q⟩:=Cr e ht w;refine⟨max d d2,ex,fr',h',?_,q⟩;simp only[code];rw[gh (fy (py d d2)) _ _ _ _ e2];exact gh (fy (pX d d2)) _ _ _ _ e3
   · cases e
 | k+1,.skip,_,_,_,_,_,e,_,_|k+1,.label _,_,_,_,_,_,e,_,_|k+1,.exit _,_,_,_,_,_,e,_,_|k+1,.ret,_,_,_,_,_,e,_,_
 | k+1,.region ..,_,_,_,_,_,e,_,_|k+1,.cond ..,_,_,_,_,_,e,_,_|k+1,.block ..,_,_,_,_,_,e,_,_|k+1,.loop _,_,_,_,_,_,e,_,_
 | k+1,.scope _,_,_,_,_,_,e,_,_|k+1,.rangeFunc ..,_,_,_,_,_,e,_,_|k+1,.goto ..,_,_,_,_,_,e,_,_|k+1,.refuse ..,_,_,_,_,_,e,_,_=>by cases e
end
section
variable {E:Env}{fr:Fr}{h:ak}{K:Value→ak→Prop}{x y z:Operand}{t:TypeId}
theorem Ib:fY E (.insert t x y z) fr h K=dM E fr x fun m=>dM E fr y fun k=>dM E fr z fun v=>Vt E t m k v h K:=by
 rw[yS rfl an];simp only[mb,bR,dM,de,Vt];cases ev E fr x with
 | none=>simp[qF]
 | some a =>
   cases ev E fr y with
   | none=>simp[qF]
   | some b =>
     cases ev E fr z with
     | none=>simp[qF]
     | some c =>
       simp only[aS,exists_eq_left']
       cases jT E t a b c h with
       | none=>simp[qF]
       | some h'=>exact propext ⟨fun ⟨_,_,e,q⟩=>by cases e;exact⟨_,rfl,q⟩,fun ⟨_,e,q⟩=>by cases e;exact⟨_,_,rfl,q⟩⟩
def rngK (E:Env) (t:TypeId) (v:Value) (h:ak) (K:Value→ak→Prop) [iJ K]:Prop:=qF (Al E t v h) K
theorem Lm:fY E (.range t x) fr h K=dM E fr x fun v=>rngK E t v h K:=by
 rw[yS rfl an];simp only[mb,bR,dM,de,rngK];cases ev E fr x with
 | none=>simp[qF]
 | some a=>simp
def Qn (s:Bool) (v:Value) (h:ak) (K:Value→ak→Prop) [iJ K]:Prop:=qF (BV v s h) K
theorem Oi {s:Bool}:fY E (.next x s) fr h K=dM E fr x fun v=>Qn s v h K:=by
 rw[yS rfl an];simp only[mb,bR,dM,de,Qn];cases ev E fr x with
 | none=>simp[qF]
 | some a=>simp
theorem Uz (ht:isStr E t=true) {s:ByteArray}(q:K (.pointer (some ⟨h.n,0,none⟩)) (ai h (.im s 0))):rngK E t (.string s) h K:=by refine⟨_,_,?_,q⟩;simp only[Al,LW ht]
def isMapT (E:Env) (t:TypeId):Bool:=match b_ E t with|some (.map _ _)=>true|_=>false
theorem Vf {r pos:Nat}{s:ByteArray}(hr:h.b.get r=some (.im s pos)) (hp:pos<s.size) (q:K (.tuple #[.bool true,.int .i64 pos,.int .i32 (Utf8.decode s pos).1]) { h with b:=h.b.set r (.im s (pos+(Utf8.decode s pos).2)) }):Qn true (.pointer (some ⟨r,0,none⟩)) h K:=by
 refine⟨_,_,?_,q⟩;have hb:Nat.blt pos s.size=true:=by rw[blt_eq];exact decide_eq_true hp
 simp only[BV,hr,hb,cond_true]
theorem HJ {r pos:Nat}{s:ByteArray}(hr:h.b.get r=some (.im s pos)) (hp:s.size≤pos) (q:K (.tuple #[.bool false]) h):Qn true (.pointer (some ⟨r,0,none⟩)) h K:=by
 refine⟨_,_,?_,q⟩;have hb:Nat.blt pos s.size=false:=by rw[blt_eq];exact decide_eq_false ah
 simp only[BV,hr,hb,cond_false]
def isSN {α:Type}:Option (Option α)→Bool
 | some none=>true
 | _=>false
theorem A9 {h0:ak}{kt et:TypeId}{d:TypeDesc}{k v:Value}{es:List (Value×Value×Nat)}{c:Nat}(hu:b_ E t=some (.map kt et)) (hd:b_ E kt=some d) (hc:(d_ E 20 kt k&&isSN (lG E kt d k es 0))=true)
  (q:K undef (ai h0 (.map (es++[(k,v,c)]) (c+1)))):Vt E t (.map (some h0.n)) k v (ai h0 (.map es c)) K:=by
 simp only[aZ]at hc
 have hg:gP (ai h0 (.map es c)) (.map (some h0.n))=some (es,c):=by
  have:Nat.blt h0.n (h0.n+1)=true:=by rw[blt_eq];exact decide_eq_true ah
  simp only[gP,bE,this,cond_true,az]
 have hf:lG E kt d k es 0=some none:=by
  have:=hc.2;unfold isSN at this;split at this;·assumption
  ·cases this
 have he:jT E t (.map (some h0.n)) k v (ai h0 (.map es c))=some (ai h0 (.map (es++[(k,v,c)]) (c+1))):=by simp only[jT,hu,hd,hg,hc.1,hf,cond_true];simp only[ai,T.set_set]
 simp only[Vt,he,Oh]
 exact q
theorem NR {E0:Env}{f:FuncId}{l:List Value}{v:Value}(hc:l.all fW=true) (hv:fW v=true) (hx:E0.ext f l l_=none) (w:cy E0 (.func f) l l_ fun u _=>u=v):Ca E0 f l=some v:=by
 obtain⟨d,u,h',e,rfl⟩:=w;have hq:∀ d',(wX E0 d' f l).isSome=true→wX E0 d' f l=some u:=fun d' hs=>by
  simp only[wX,hc,hx,FK,dP,cond_true]at hs ⊢;split at hs;·rename_i u' h2 e2;have e3:=fy (E:=E0) (py d d') _ _ _ _ e;have e4:=fy (E:=E0) (pX d d') _ _ _ _ e2;rw[e3]at e4;cases e4;simp only[hv,cond_true]
  ·cases hs
 have h0:(wX E0 d f l).isSome=true:=by simp only[wX,hc,hx,FK,dP,cond_true,e,hv,Option.isSome_some]
 have hd:∃ d,(wX E0 d f l).isSome=true:=⟨d,h0⟩;simp only[Ca,hd,dif_pos];exact hq _ (Classical.choose_spec hd)
theorem vU {nt:Nat}{rd:Option Nat}{a:GC}{Q:Ex→Fr→ak→Prop}(n:Nat) (hn:n≤1000000) (w:wh (a.wp E nt rd) Q n fr h):(GC.loop a).wp E nt rd fr h Q:=⟨n,hn,w⟩
theorem mY {A:Fr→ak→(Ex→Fr→ak→Prop)→Prop}{Q:Ex→Fr→ak→Prop}{n:Nat}:wh A Q (n+1) fr h=A fr h (Cd (wh A Q n) Q):=ct rfl rfl
end
open Go.RowKit
section
variable {P:Program}{ρ:Ren}{h:ak}{w w':World}
end
section
variable {E:Env}{fr:Fr}{h:ak}{K:Value→ak→Prop}{x y:Operand}{t t':TypeId}
def ixK (E:Env) (t:TypeId) (v i:Value) (K:Value→Prop) [iJ K]:Prop:=de (yX E t v i) K
theorem MC:fY E (.index t x y) fr h K=dM E fr x fun v=>dM E fr y fun i=>ixK E t v i fun u=>K u h:=by
 simp only[fY,jl,kR,tV,bR,eT,dZ,dM,tN,de,ixK];cases ev E fr x with
 | none=>simp
 | some a =>
   cases ev E fr y with
   | none=>simp
   | some b=>simp
def Qq (E:Env) (t:TypeId) (n sz:Nat):Bool:=match b_ E t with
 | some (.array len e)=>Nat.beq len n&&match size E e with
   | some s=>Nat.beq s sz&&match E.qh.get e with
     | some i=>Nat.beq i.size sz&&match i.desc with|.struct _|.array _ _=>true|_=>false
     | none=>false
   | none=>false
 | _=>false
theorem z_ {α:Type}:∀ (n:Nat) (l:List α),n≤l.length→takeN n l=some (l.take n)
 | 0,_,_=>rfl
 | n+1,[],h=>by simp at h
 | n+1,x::l,h=>by simp only[takeN,z_ n l (by simpa using h),bS,iX]
theorem ix_arr {n sz:Nat}(ht:Qq E t n sz=true) {l:List Value}{k:IntKind}{i:Nat}{K:Value→Prop}(hi:i<n) (hl:i*sz+sz≤l.length) (q:K (.agg ⟨(l.drop (i*sz)).take sz⟩)):ixK E t (.agg ⟨l⟩) (.int k (i:Int)) K:=by
 refine⟨_,?_,q⟩;unfold Qq at ht;split at ht
 ·rename_i len e hu;simp only[aZ,mP]at ht;obtain⟨rfl,ht⟩:=ht;split at ht
  ·rename_i s hs;simp only[aZ,mP]at ht;obtain⟨rfl,ht⟩:=ht;split at ht
   ·rename_i inf he;simp only[aZ,mP]at ht;obtain⟨hz,ht⟩:=ht;have h0:(0:Int)≤(i:Int):=ah;have h1:(i:Int)<(len:Int):=ah;have tk:takeN s (l.drop (i*s))=some ((l.drop (i*s)).take s):=z_ _ _ (by rw[kg];omega);simp only[yX,hu,hs,h0,h1,decide_true,dP,cond_true,vq,partOf,he];split at ht;·rename_i hd;rw[hd];simp only[hz,jJ,tk,bS]
    ·rename_i hd;rw[hd];simp only[hz,jJ,tk,bS]
    ·cases ht
   ·cases ht
  ·cases ht
 ·cases ht
theorem D0 {kt et:TypeId}{d:TypeDesc}{k v:Value}{ok:Bool}{r i c:Nat}{es:List (Value×Value×Nat)}{K:Value→Prop}(hr:r<h.n) (hb:h.b.get r=some (.map es c)) (hu:b_ E t=some (.map kt et)) (hd:b_ E kt=some d) (hc:d_ E 20 kt k=true)
  (hs:lG E kt d k es 0=some (some (i,v))) (q:K (cond ok (.tuple #[v,.bool true]) v)):FV E t (.map (some r)) k ok h K:=by
 have h1:Nat.blt r h.n=true:=by rw[blt_eq];exact decide_eq_true hr
 refine⟨_,?_,q⟩
 simp only[mh,hu,hd,hc,cond_true,gP,h1,hb,bS,hs]
theorem Aj {kt et:TypeId}{d:TypeDesc}{k z:Value}{ok:Bool}{r c:Nat}{es:List (Value×Value×Nat)}{K:Value→Prop}(hr:r<h.n) (hb:h.b.get r=some (.map es c)) (hu:b_ E t=some (.map kt et)) (hd:b_ E kt=some d) (hc:d_ E 20 kt k=true)
  (hz:zero E et=some z) (hs:lG E kt d k es 0=some none) (q:K (cond ok (.tuple #[z,.bool false]) z)):FV E t (.map (some r)) k ok h K:=by
 have h1:Nat.blt r h.n=true:=by rw[blt_eq];exact decide_eq_true hr
 refine⟨_,?_,q⟩
 simp only[mh,hu,hd,hc,cond_true,gP,h1,hb,bS,hs,hz]
theorem Py {r pos:Nat}{l:List UInt8}(hr:h.b.get r=some (.im ⟨l.toArray⟩ pos)) (hp:pos<l.length) (ha:l[pos].toNat<128) (q:K (.tuple #[.bool true,.int .i64 pos,.int .i32 (l[pos].toNat:Int)]) { h with b:=h.b.set r (.im ⟨l.toArray⟩ (pos+1)) }):Qn true (.pointer (some ⟨r,0,none⟩)) h K:=by
 have hs:(⟨l.toArray⟩:ByteArray).size=l.length:=by simp[ByteArray.size]
 have hg:((⟨l.toArray⟩:ByteArray)[pos]'(by rw[hs];exact hp))=l[pos]:=rfl;have hd:=decode_ascii ⟨l.toArray⟩ pos (by rw[hs];exact hp) (by rw[hg];exact ha);rw[hg]at hd;refine Vf hr (by rw[hs];exact hp) ?_;rw[hd];exact q
def Vr (a b:Value) (K:Value→Prop) [iJ K]:Prop:=de (rE false a b) K
theorem UT:fY E (.call ⟨.builtin .min,⟨[x,y]⟩,⟨[t,t']⟩⟩) fr h K=dM E fr x fun a=>dM E fr y fun b=>Vr a b fun u=>K u h:=by
 simp only[fY,jl,kR,tV,v8,bR,eT,dZ,Bx,aW,dM,tN,de,Vr];cases ev E fr x with
 | none=>simp
 | some a =>
   cases ev E fr y with
   | none=>simp
   | some b =>
     simp only[aS,exists_eq_left',xX]
     cases rE false a b<;>simp
theorem S8 {k k':IntKind}{a b:Int}{K:Value→Prop}:Vr (.int k a) (.int k' b) K=K (.int k (min a b)):=by
 simp only[Vr,rE,cond_false,bu];rw[Int.min_def];by_cases hl:b<a;·rw[if_pos hl,if_neg ah]
 ·rw[if_neg hl];by_cases he:a=b;·subst he;simp
  ·rw[if_pos ah]
theorem ET {e:TypeId}{sz n m:Nat}{a:Addr}{y:Value}{cs new:List Value}(hn:n<bh) (hc:firstCells h sz n (.slice (some a) n n)=some cs) (hy:lenOf y=some m) (hm:m≠0) (hsz:n+m≤1000000)
  (hnew:firstCells h sz m y=some new) (hone:new.all aE=true) (k:K (.slice (some ⟨h.n,0,none⟩) (n+m) bh) (ai h (.cells (cs++new) e false))):iK e sz (.slice (some a) n n) y h K:=by
 simp only[iK,hy]
 refine⟨⟨ah,.inr hm⟩,fun h0=>absurd h0 hm,fun _=>?_⟩
 rw[hnew,bu]
 refine⟨hone,?_⟩
 have:bW h e sz (some a) n n m new=some (.slice (some ⟨h.n,0,none⟩) (n+m) bh,ai h (.cells (cs++new) e false)):=by
  have f1:Nat.beq n fb=false:=by
   cases hb:Nat.beq n fb with
   | true=>have:=eY hb;unfold fb at this;unfold bh at hn;omega
   | false=>rfl
  have f2:Nat.beq n bh=false:=by
   cases hb:Nat.beq n bh with
   | true=>have:=eY hb;omega
   | false=>rfl
  have f3:Nat.ble (n+m) n=false:=by
   cases hb:Nat.ble (n+m) n with
   | true=>have:=fX hb;omega
   | false=>rfl
  unfold bW;simp only[f1,f2,f3,cond_false,hc]
 rw[this,fj]
 exact k
end
end Go.Ev

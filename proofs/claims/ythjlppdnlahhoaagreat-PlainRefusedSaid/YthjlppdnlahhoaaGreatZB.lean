/- THE EVALUATOR: a deterministic reading of the program's code over an abstract heap, and that the model does what it says (2). Conditions: none beyond each theorem's own. -/
import Derived.Test.YthjlppdnlahhoaaGreatZA
import Derived.IntWalk
import Derived.Lib.ConvBytes
import Derived.Laws.AppendOwn
set_option linter.unusedSimpArgs false
set_option linter.unusedVariables false
namespace Go.Ev
section
variable {P:Program}{E:Env}{ρ:Ren}{h:ak}{w:World}
theorem cell_of {b off:Nat}{xs:Array Value}{e:TypeId}{fr:Nat×Nat}(hw:w.heap[b]?=some (.cells xs e fr)) (j:Nat):w.cell? ⟨b,off+j,none⟩=xs[off+j]?:=by simp[World.cell?,hw]
def Hl:TypeDesc→Bool
 | .struct _|.array _ _=>true
 | _=>false
theorem tj {g:Nat→Option Value}:∀ (n off:Nat) (l:List Value),jz g off n=some l→l.length=n∧∀ j v,l[j]?=some v→g (off+j)=some v
 | 0,off,l,e=>by simp only[jz,aS]at e;subst e;exact⟨rfl,fun j v e=>by simp at e⟩
 | n+1,off,l,e=>by
   simp only[jz]at e;split at e
   · rename_i v0 l0 h1 h2;cases e;obtain⟨i1,i2⟩:=tj n (off+1) l0 h2;refine⟨by simp[i1],fun j v e=>?_⟩;cases j with
     | zero=>simp at e;subst e;exact h1
     | succ j=>simp only[cu]at e;have:=i2 j v e;rwa [show off+(j+1)=off+1+j by omega]
   · cases e
theorem lB (hr:HR P ρ h w) {i off b c n:Nat}{l:List Value}(hi:ρ i=some (b,c)) (hl:av h ⟨i,off,none⟩ n=some l) :
   ∃ l',eW ρ l l'∧l.length=n∧∀ (j:Nat) (v':Value),l'[j]?=some v'→w.cell? ((⟨b,off,none⟩:Addr).add j)=some v':=by
 unfold av at hl
 rw[bF]at hl
 by_cases hn:n=0
 · rw[if_pos hn]at hl;cases hl;exact⟨[],.nil,by simp[hn],fun j v' e=>by simp at e⟩
 · rw[if_neg hn]at hl;simp only at hl;obtain⟨k,o,e1,e2,e3⟩:=hr.rj i b c hi;rw[e1]at hl;cases e3 with
   | cells cs xs e exact hc hs =>
     simp only[jJ]at hl;replace hl:takeN n (cs.drop off)=some l:=by revert hl;cases Nat.blt i h.n<;>simp
     obtain⟨h1,rfl⟩:=pI _ _ _ hl;have hlen:((cs.drop off).take n).length=n:=by simp at h1 ⊢;omega
     have hget:∀ j,j<n→∃ v',xs[off+j]?=some v'∧∀ v,cs[off+j]?=some v→VR ρ v v':=by
       intro j hj;have aT:off+j<cs.length:=by simp at h1;omega
       obtain⟨v',e',r⟩:=hc (off+j) _ (bw aT);exact⟨v',e',fun v ev=>by rw[bw aT]at ev;cases ev;exact r⟩
     have hfit:off+n≤xs.size:=by obtain⟨v',e',_⟩:=hget (n-1) ah;have:=(fq.1 e').1;omega
     refine⟨(xs.toList.drop off).take n,?_,hlen,fun j v' ev=>?_⟩
     · refine eW.xv (by simp at hlen ⊢;omega) fun j v ev=>?_;have hj:j<n:=by have:=(cQ.1 ev).1;rw[hlen]at this;exact this
       obtain⟨v',e',r⟩:=hget j hj;rw[jx hj,kH]at ev;refine⟨v',?_,r v ev⟩;rw[jx hj,kH];simpa using e'
     · have hj:j<n:=by have:=(cQ.1 ev).1;simp at this;omega
       rw[jx hj,kH]at ev;rw[Addr.add_lit,cell_of e2];simpa using ev
   | ro g o hro =>
     replace hl:jz g off n=some l:=by revert hl;cases Nat.blt i h.n<;>simp
     obtain⟨i1,i2⟩:=tj _ _ _ hl;have hn':0<l.length:=ah;obtain⟨xs,el,f,v0,ho,_,_⟩:=hro _ _ (i2 0 _ (bw hn'));subst ho;have hget:∀ j v,l[j]?=some v→∃ v',xs[off+j]?=some v'∧VR ρ v v':=by intro j v e;obtain⟨xs',el',f',v',ho,e',r⟩:=hro _ _ (i2 j v e);cases ho;exact⟨v',e',r⟩
     have hfit:off+n≤xs.size:=by obtain⟨v',e',_⟩:=hget (n-1) _ (bw ah);have:=(fq.1 e').1;omega
     refine⟨(xs.toList.drop off).take n,?_,i1,fun j v' ev=>?_⟩
     · refine eW.xv (by simp;omega) fun j v ev=>?_;have hj:j<n:=by have:=(cQ.1 ev).1;omega
       obtain⟨v',e',r⟩:=hget j v ev;refine⟨v',?_,r⟩;rw[jx hj,kH];simpa using e'
     · have hj:j<n:=by have:=(cQ.1 ev).1;simp at this;omega
       rw[jx hj,kH]at ev;rw[Addr.add_lit,cell_of e2];simpa using ev
   | _=>simp at hl
theorem yj {t:TypeId}{d:TypeDesc}(hu:P.underlying t=some d) (hd:Hl d=true) {n:Nat}(hs:(sizeOf t).run P w=.ok n w)
  {a:Addr}{l:List Value}(hl:l.length=n) (hc:∀ (j:Nat) (v':Value),l[j]?=some v'→w.cell? (a.add j)=some v'):(loadVar t a).run P w=.ok (.agg l.toArray) w:=by
 have hia:(Go.isAgg t).run P w=.ok true w:=by simp only[Go.isAgg,Sem.run_bind,run_underlying hu,Result.andThen_ok];cases d<;>simp[Hl]at hd<;>rfl
 have:=run_loadCells_list (P:=P) w a l hc
 rw[hl]at this
 simp[loadVar,hia,hs,this]
theorem yl {t:TypeId}{d:TypeDesc}(hu:P.underlying t=some d) (hd:Hl d=false)
  {a:Addr}{v':Value}(hc:w.cell? (a.add 0)=some v'):(loadVar t a).run P w=.ok v' w:=by
 have hia:(Go.isAgg t).run P w=.ok false w:=by simp only[Go.isAgg,Sem.run_bind,run_underlying hu,Result.andThen_ok];cases d<;>simp[Hl]at hd<;>rfl
 rw[show a.add 0=a by simp[Addr.add]]at hc
 simp[loadVar,hia,hc]
theorem AB (hE:bJ P E) (hr:HR P ρ h w) {t:TypeId}{x x' v:Value}(e:loadAt E t x h=some v) (hx:VR ρ x x') :
   ∃ v',(Instr.loadAt t x').run P w=.ok v' w∧VR ρ v v':=by
 unfold loadAt at e
 split at e
 · rename_i a i hi;obtain⟨info,e1,e2,e3,_⟩:=hE.qh t i hi;cases hx with
   | @ptr j b c off hj =>
     have agg:∀ d:TypeDesc,i.desc=d→Hl d=true→((av h ⟨j,off,none⟩ i.size).map fun l=>Value.agg l.toArray)=some v →
         ∃ v',(Instr.loadAt t (.pointer (some ⟨b,off,none⟩))).run P w=.ok v' w∧VR ρ v v':=by
       intro d hd ha hv
       simp only[aY]at hv
       obtain⟨l,hl,rfl⟩:=hv
       obtain⟨l',r,hlen,hc⟩:=lB hr hj hl
       have hu:=e2 (by intro e;rw[hd]at e;subst e;simp[Hl]at ha)
       rw[hd]at hu
       refine⟨.agg l'.toArray,?_,.agg _ _ (by simpa using r)⟩
       have hs:(sizeOf t).run P w=.ok i.size w:=by simp[sizeOf,Go.run_typeInfo w e1,e3]
       simp[Instr.loadAt,Instr.sureAddr,yj hu ha hs (by rw[← r.length,hlen]) hc]
     have one:∀ d:TypeDesc,i.desc=d→d≠.invalid→Hl d=false→(match av h ⟨j,off,none⟩ 1 with|some [v]=>some v|_=>none)=some v →
         ∃ v',(Instr.loadAt t (.pointer (some ⟨b,off,none⟩))).run P w=.ok v' w∧VR ρ v v':=by
       intro d hd hinv ha hv
       split at hv
       · rename_i u hl;cases hv;obtain⟨l',r,hlen,hc⟩:=lB hr hj hl;cases r with
         | cons r t' =>cases t';rename_i u';have hu:=e2 (by rw[hd];exact hinv);rw[hd]at hu;refine⟨u',?_,r⟩;simp[Instr.loadAt,Instr.sureAddr,yl hu ha (hc 0 u' an)]
       · cases hv
     cases hd:i.desc with
     | struct fs=>simp only[hd]at e;exact agg _ hd rfl e
     | array n el=>simp only[hd]at e;exact agg _ hd rfl e
     | invalid=>simp[hd]at e
     | _=>simp only[hd]at e;exact one _ hd an rfl e
 · cases e
theorem jr (hr:HR P ρ h w) {x x':Value}{es:List (Value×Value×Nat)}{n:Nat}(e:gP h x=some (es,n)) (hx:VR ρ x x') :
   ∃ i b c es',x=.map (some i)∧x'=.map (some b)∧ρ i=some (b,c)∧h.b.get i=some (.map es n)∧w.heap[b]?=some (.map es' n)∧MR ρ es es'.toList:=by
 unfold gP at e
 split at e
 · rename_i r;cases hx with
   | @map i b c hi =>
     obtain⟨k,o,e1,e2,e3⟩:=hr.rj _ b c hi;rw[e1]at e;cases e3 with
     | map es0 es' n0 hm =>
       simp only at e
       replace e:some (es0,n0)=some (es,n):=by revert e;cases Nat.blt r h.n<;>simp
       cases e
       exact⟨r,b,c,es',rfl,rfl,hi,e1,e2,hm⟩
     | _=>simp at e
 · cases e
theorem xT (hr:HR P ρ h w) {x x':Value}{es:List (Nat×Value×Value)}(e:ln h x=some es) (hx:VR ρ x x') :
   ∃ i b c n es',x=.map (some i)∧x'=.map (some b)∧ρ i=some (b,c)∧h.b.get i=some (.smap es)∧w.heap[b]?=some (.map es' n)∧SR ρ es es'.toList:=by
 unfold ln at e
 split at e
 · rename_i r;cases hx with
   | @map i b c hi =>
     obtain⟨k,o,e1,e2,e3⟩:=hr.rj _ b c hi;rw[e1]at e;cases e3 with
     | smap es0 es' n0 hm =>
       simp only at e
       replace e:some es0=some es:=by revert e;cases Nat.blt r h.n<;>simp
       cases e
       exact⟨r,b,c,n0,es',rfl,rfl,hi,e1,e2,hm⟩
     | _=>simp at e
 · cases e
theorem run_getObj_map {b n:Nat}{es:Array MapEntry}(hb:w.heap[b]?=some (.map es n)):(getObj b).run P w=.ok (.map es n) w:=by simp[getObj,Sem.run,hb]
theorem MR.length {es:List (Value×Value×Nat)}{es':List MapEntry}(hm:MR ρ es es'):es.length=es'.length:=by
 induction hm with
 | nil=>rfl
 | cons _ _ _ ih=>simp[ih]
theorem MK (hE:bJ P E) (hr:HR P ρ h w) {t ty:TypeId}{ts:Array TypeId}{xs:Array Value}{x x' v:Value}(ht:ts[0]?=some t) (hxs:xs[0]?=some x') (e:Cv E t x h=some v) (hx:VR ρ x x') :
  (Builtin.len_ ts ty xs).run P w=.ok v w∧VR ρ v v:=by
 unfold Cv at e
 split at e
 ·rename_i h1;have h1:=hE.b_ h1 an;cases hx;cases e;exact⟨by simp[Builtin.len_,ht,hxs,run_underlying h1,goInt],.int _ _⟩
 ·rename_i h1 hn;have h1:=hE.b_ h1 an;simp only[aY]at e;obtain⟨⟨es,n⟩,e,rfl⟩:=e;obtain⟨i,b,c,es',rfl,rfl,hi,_,e2,hm⟩:=jr hr e hx;refine⟨?_,.int _ _⟩;simp[Builtin.len_,ht,hxs,run_underlying h1,goInt,run_getObj_map e2,hm.length]
 ·cases e
theorem Cu:∀ (l l':List Value) (bs:List UInt8),aW byteOf l=some bs→eW ρ l l'→∀ (s:ByteArray) (w:World),
   (forIn l' s (fun c (s:ByteArray)=>(match c with|.int .u8 n=>pure (.yield (s.push (UInt8.ofNat n.toNat)))|_=>(do stuck "bytesToString: byte expected";pure (.yield s)):Sem (ForInStep ByteArray)))).run P w=.ok ⟨s.data++bs.toArray⟩ w
 | [],l',bs,h,hr,s,w=>by cases hr;simp[aW]at h;subst h;simp
 | v::l,l',bs,h,hr,s,w=>by
   cases hr with
   | cons hv t =>
     simp only[aW]at h
     cases hb:byteOf v with
     | none=>simp[hb]at h
     | some b =>
       cases hm:aW byteOf l with
       | none=>simp[hb,hm]at h
       | some q =>
         simp only[hb,hm]at h;cases h
         unfold byteOf at hb
         split at hb
         · cases hb;cases hv;simp only[List.forIn_cons,Sem.run_bind,Sem.run_pure,Result.andThen_ok];rw[Cu _ _ _ hm t];simp[ByteArray.push]
         · cases hb
theorem Bu (hE:bJ P E) (hr:HR P ρ h w) {s d:TypeId}{x x' v:Value}(e:mL E s d x h=some v) (hx:VR ρ x x'):(convert s d x').run P w=.ok v w∧VR ρ v v:=by
 unfold mL at e;split at e
 · rename_i el h1 h2;have h1:=hE.b_ h1 an;have h2:=hE.b_ h2 an;split at e;· rename_i h3;have h3:=hE.b_ h3 an;cases hx;cases e;exact⟨by simp[convert,run_underlying h1,run_underlying h2,run_underlying h3,Conv.bytesToString],.string _⟩
   · rename_i a len cap h3;have h3:=hE.b_ h3 an;split at e
     · rename_i l hl;simp only[aY]at e;obtain⟨bs,hb,rfl⟩:=e;refine⟨?_,.string _⟩;have fin:∀ (a':Addr) (cap':Nat) (l':List Value),eW ρ l l'→l.length=len→(∀ (j:Nat) (v':Value),l'[j]?=some v'→w.cell? (a'.add j)=some v') →
           (convert s d (.slice (some a') len cap')).run P w=.ok (.string ⟨bs.toArray⟩) w:=by
         intro a' cap' l' r hlen hc
         have:=run_loadCells_list (P:=P) w a' l' hc
         rw[← r.length,hlen]at this
         have hb':=Cu (P:=P) _ _ _ hb r .empty w
         simp only[convert,Sem.run_bind,run_underlying h1,run_underlying h2,run_underlying h3,Result.andThen_ok,Conv.bytesToString,this]
         rw[List.forIn_toArray]
         exact(congrArg (fun r:Result ByteArray=>r.andThen fun a w'=>Sem.run P (pure (Value.string a)) w') hb').trans an
       cases hx with
       | @slice i b c off _ _ hi _ =>
         obtain⟨l',r,hlen,hc⟩:=lB hr hi hl
         exact fin _ _ l' r hlen hc
       | @g_ i b c off _ _ hi _ _ _ =>
         obtain⟨l',r,hlen,hc⟩:=lB hr hi hl
         exact fin _ _ l' r hlen hc
       | iQ a0 a' cap' =>
         simp[av]at hl
         subst hl
         exact fin _ _ [] .nil rfl (fun j v' e=>by simp at e)
     · cases e
   · cases e
 · cases e
theorem jm (hE:bJ P E):∀ (d D:Nat),d≤D→∀ (t:TypeId) (v v':Value),d_ E d t v=true→VR ρ v v'→∀ (em:Bool) (w:World),(Instr.checkKey em D t v').run P w=.ok () w
 | 0,_,_,_,_,_,h,_,_,_=>by simp[d_]at h
 | d+1,D,hD,t,v,v',h,hv,em,w=>by
   obtain⟨D,rfl⟩:∃ D',D=D'+1:=⟨D-1,ah⟩;have ih:=jm hE d D ah;unfold d_ at h;split at h
   · rename_i fs cs hu;have hu:=hE.b_ hu an;cases hv with
     | agg _ cs' hv =>
       simp only[Instr.checkKey,Sem.run_bind,run_underlying hu,Result.andThen_ok];rw[← Array.forIn_toList];generalize fs.toList=l at h;clear hu;have:∀ l:List Field,(l.all fun f=>f.name== "_" || (match partOf E f.type cs.toList f.offset with|some x=>d_ E d f.type x|none=>false))=true →
           (forIn l PUnit.unit (fun (f:Field) (_:PUnit)=>(if f.name≠ "_" then (do Instr.checkKey em D f.type (← part f.type cs' f.offset);pure (.yield PUnit.unit)) else pure (.yield PUnit.unit):Sem (ForInStep PUnit)))).run P w=.ok PUnit.unit w:=by
         intro l hl
         induction l with
         | nil=>simp
         | cons f l ihl =>
           simp only[hY,aZ]at hl
           obtain⟨h1,h2⟩:=hl
           simp only[List.forIn_cons,Sem.run_bind,Sem.run_ite]
           by_cases hn:f.name= "_"
           · simp only[hn,ne_eq,not_true_eq_false,if_false,Sem.run_pure,Result.andThen_ok];exact ihl h2
           · rw[show (f.name== "_")=false by simpa using hn]at h1;simp only[Bool.false_or]at h1;cases hp:partOf E f.type cs.toList f.offset with
             | none=>simp[hp]at h1
             | some x =>simp only[hp]at h1;obtain⟨x',e,r⟩:=lC hE hp hv;simp only[hn,ne_eq,not_false_eq_true,if_true,e,Result.andThen_ok,ih _ _ _ h1 r em w,Sem.run_pure];exact ihl h2
       exact(congrArg (fun r:Result PUnit=>r.andThen fun _ w'=>Sem.run P (pure ()) w') (this l h)).trans rfl
   · rename_i n e cs hu;have hu:=hE.b_ hu an;cases hv with
     | agg _ cs' hv =>
       split at h
       · rename_i sz hs;simp only[Instr.checkKey,Sem.run_bind,run_underlying hu,Result.andThen_ok,Std.Legacy.Range.forIn_eq_forIn_range',Std.Legacy.Range.size,nh,Nat.add_one_sub_one,Nat.div_one];rw[Bd]at h;generalize List.range' 0 n=l at h;have:∀ l:List Nat,(l.all fun i=>match partOf E e cs.toList (i*sz) with|some x=>d_ E d e x|none=>false)=true →
             (forIn l PUnit.unit (fun (i:Nat) (_:PUnit)=>(do Instr.checkKey em D e (← part e cs' (i*(← sizeOf e)));pure (.yield PUnit.unit):Sem (ForInStep PUnit)))).run P w=.ok PUnit.unit w:=by
           intro l hl
           induction l with
           | nil=>simp
           | cons i l ihl =>
             simp only[hY,aZ]at hl
             obtain⟨h1,h2⟩:=hl
             simp only[List.forIn_cons,Sem.run_bind]
             cases hp:partOf E e cs.toList (i*sz) with
             | none=>simp[hp]at h1
             | some x =>
               simp only[hp]at h1
               obtain⟨x',ep,r⟩:=lC hE hp hv
               simp only[hE.gW hs,Result.andThen_ok,ep,ih _ _ _ h1 r em w,Sem.run_pure];exact ihl h2
         exact(congrArg (fun r:Result PUnit=>r.andThen fun _ w'=>Sem.run P (pure ()) w') (this l h)).trans rfl
       · cases h
   · rename_i hu;have hu:=hE.b_ hu an;cases hv<;>simp[Instr.checkKey,run_underlying hu]
   · rename_i hu;have hu:=hE.b_ hu an;cases hv<;>simp[Instr.checkKey,run_underlying hu]
   · rename_i hu;have hu:=hE.b_ hu an;cases hv<;>simp[Instr.checkKey,run_underlying hu]
   · rename_i hu;have hu:=hE.b_ hu an;cases hv<;>simp[Instr.checkKey,run_underlying hu]
   · cases h
theorem kT {d:TypeDesc}{x y x' y':Value}{b:Bool}(h:mX d x y=some b) (hx:VR ρ x x') (hy:VR ρ y y'):Instr.sameNow d x' y'=some b:=by
 unfold mX at h;split at h
 ·cases hx;cases hy;rename_i k a k' b';by_cases hk:k=k';·subst hk;simp at h;simp[Instr.sameNow,h]
  ·simp[hk]at h
 ·cases hx;cases hy;cases h;simp[Instr.sameNow,vh,beq_toListBytes]
 ·cases hx;cases hy;cases h;simp[Instr.sameNow]
 ·cases h
def aas (ρ:Ren):Option (Nat×Value)→Option (Nat×Value)→Prop
 | none,none=>True
 | some (i,v),some (j,v')=>i=j∧VR ρ v v'
 | _,_=>False
theorem BQ {kt:TypeId}{d:TypeDesc}(hd:pT d=true) {k k':Value}(hk:VR ρ k k'):∀ {es:List (Value×Value×Nat)}{es':List MapEntry}{i:Nat}{r:Option (Nat×Value)},
   lG E kt d k es i=some r→MR ρ es es'→∃ r',Instr.findNow d k' es' i=some r'∧aas ρ r r'
 | [],es',i,r,h,hm=>by cases hm;simp only[lG]at h;cases h;exact⟨none,rfl,trivial⟩
 | (kk,v,n)::es,es',i,r,h,hm=>by
   cases hm with
   | cons h1 h2 t =>
     simp only[lG,hd,cond_true]at h
     split at h
     · rename_i he;cases h;rename_i v' _ _;exact⟨some (i,v'),by simp only[Instr.findNow,kT he hk h1],rfl,h2⟩
     · rename_i he;obtain⟨r',e,rr⟩:=BQ hd hk h t;exact⟨r',by simp only[Instr.findNow,kT he hk h1,e],rr⟩
     · cases h
theorem CB (hE:bJ P E) {kt:TypeId}{d:TypeDesc}(hd:pT d=false) {k k':Value}(hk:VR ρ k k'):∀ {es:List (Value×Value×Nat)}{es':List MapEntry}{i:Nat}{r:Option (Nat×Value)},
   lG E kt d k es i=some r→MR ρ es es'→∃ r',(∀ w:World,(Instr.findAsking kt k' es' i).run P w=.ok r' w)∧aas ρ r r'
 | [],es',i,r,h,hm=>by cases hm;simp only[lG]at h;cases h;exact⟨none,fun w=>rfl,trivial⟩
 | (kk,v,n)::es,es',i,r,h,hm=>by
   cases hm with
   | cons h1 h2 t =>
     simp only[lG,hd,cond_false]at h
     split at h
     · rename_i he;cases h;rename_i v' l' _;exact⟨some (i,v'),fun w=>by simp only[Instr.findAsking,Sem.run_bind,Op.equal,yR hE 100 Op.maxDepth ao _ _ _ _ _ _ he hk h1 w,Result.andThen_ok,if_true];rfl,rfl,h2⟩
     · rename_i he;obtain⟨r',e,rr⟩:=CB hE hd hk h t;exact⟨r',fun w=>by simp only[Instr.findAsking,Sem.run_bind,Op.equal,yR hE 100 Op.maxDepth ao _ _ _ _ _ _ he hk h1 w,Result.andThen_ok,dQ,if_false,e w],rr⟩
     · cases h
theorem Ek {d:TypeDesc}(hd:pT d=false) (k:Value):∀ (e:MapEntry) (es:List MapEntry) (i:Nat),Instr.findNow d k (e::es) i=none:=by intro e es i;cases d<;>simp[pT]at hd<;>simp[Instr.findNow,Instr.sameNow]
theorem j0 (hE:bJ P E) {kt:TypeId}{d:TypeDesc}(hu:P.underlying kt=some d) {k k':Value}(hk:VR ρ k k') {es:List (Value×Value×Nat)}{es':List MapEntry}{r:Option (Nat×Value)}
   (h:lG E kt d k es 0=some r) (hm:MR ρ es es'):∃ r',(∀ w:World,(Instr.findKey kt k' es').run P w=.ok r' w)∧aas ρ r r':=by
 cases hd:pT d with
 | true =>
   obtain⟨r',e,rr⟩:=BQ hd hk h hm
   exact⟨r',fun w=>by simp[Instr.findKey,run_underlying hu,e],rr⟩
 | false =>
   obtain⟨r',e,rr⟩:=CB hE hd hk h hm
   refine⟨r',fun w=>?_,rr⟩
   cases es' with
   | nil =>
     have:=e w
     simp only[Instr.findAsking,Sem.run_pure]at this
     simp only[Instr.findKey,Sem.run_bind,run_underlying hu,Result.andThen_ok,Instr.findNow,Sem.run_pure]
     exact this
   | cons e0 es0=>simp only[Instr.findKey,Sem.run_bind,run_underlying hu,Result.andThen_ok,Ek hd,e w]
theorem uK {d:TypeDesc}{k v:Value}:∀ {es:List (Nat×Value×Value)},zD d k es=some (some v) →
   (∃ x∈es,mX d k x.2.1=some true)∧∀ x∈es,∃ b,mX d k x.2.1=some b∧(b=true→x.2.2=v)
 | [],h=>by simp[zD]at h
 | e::es,h=>by
   simp only[zD]at h;split at h
   · rename_i he;obtain⟨⟨x,hx,ex⟩,h2⟩:=uK h;refine⟨⟨x,fU _ hx,ex⟩,fun y hy=>?_⟩;rcases cM.1 hy with rfl|hy;· exact⟨false,he,an⟩
     · exact h2 y hy
   · rename_i he hn;cases h;refine⟨⟨e,eZ,he⟩,fun y hy=>?_⟩;rcases cM.1 hy with rfl|hy;· exact⟨true,he,fun _=>rfl⟩
     · exact⟨false,uP hn y hy,an⟩
   · cases h
where uP {d:TypeDesc}{k:Value}:∀ {es:List (Nat×Value×Value)},zD d k es=some none→∀ x∈es,mX d k x.2.1=some false
 | [],_,x,hx=>by cases hx
 | e::es,h,x,hx=>by
   simp only[zD]at h;split at h
   · rename_i he;rcases cM.1 hx with rfl|hx;· exact he
     · exact uP h x hx
   · cases h
   · cases h
theorem xP {d:TypeDesc}{k' v:Value}:∀ {l:List MapEntry}{i:Nat},(∀ e∈l,∃ b,Instr.sameNow d k' e.key=some b∧(b=true→VR ρ v e.val))→(∃ e∈l,Instr.sameNow d k' e.key=some true) →
   ∃ j v',Instr.findNow d k' l i=some (some (j,v'))∧VR ρ v v'
 | [],i,_,⟨e,he,_⟩=>by cases he
 | e::l,i,h1,⟨e',he',h2⟩=>by
   obtain⟨b,hb,hv⟩:=h1 e eZ;cases b with
   | true=>exact⟨i,e.val,by simp only[Instr.findNow,hb],hv rfl⟩
   | false =>
     have:e'∈l:=by
       rcases cM.1 he' with rfl|h;· rw[hb]at h2;cases h2
       · exact h
     obtain⟨j,v',h3,h4⟩:=xP (i:=i+1) (fun x hx=>h1 x (fU _ hx)) ⟨e',this,h2⟩
     exact⟨j,v',by simp only[Instr.findNow,hb,h3],h4⟩
theorem qN {d:TypeDesc}{k':Value}:∀ {l:List MapEntry}{i:Nat},(∀ e∈l,Instr.sameNow d k' e.key=some false)→Instr.findNow d k' l i=some none
 | [],i,_=>rfl
 | e::l,i,h=>by simp only[Instr.findNow,h e eZ];exact qN fun x hx=>h x (fU _ hx)
theorem lZ {kt:TypeId}{d:TypeDesc}(hu:P.underlying kt=some d) {k':Value}{l:List MapEntry}{r:Option (Nat×Value)}(e:Instr.findNow d k' l 0=some r):(Instr.findKey kt k' l).run P w=.ok r w:=by simp[Instr.findKey,run_underlying hu,e]
theorem q_ {t kt et:TypeId}(hu:P.underlying t=some (.map kt et)) {m' k':Value}{es':Array MapEntry}(hes:(m'=.map none∧es'=#[])∨∃ b n,m'=.map (some b)∧w.heap[b]?=some (.map es' n))
  (hck:(Instr.checkKey es'.isEmpty 10000 kt k').run P w=.ok () w) {i:Nat}{v:Value}(hf:(Instr.findKey kt k' es'.toList).run P w=.ok (some (i,v)) w) (ok:Bool) :
  (Instr.lookup t m' k' ok).run P w=.ok (if ok then .tuple #[v,.bool true] else v) w:=by
 rcases hes with ⟨rfl,rfl⟩|⟨b,n,rfl,hb⟩
 ·have hck:(Instr.checkKey true 10000 kt k').run P w=.ok () w:=hck;have hf:(Instr.findKey kt k' []).run P w=.ok (some (i,v)) w:=hf;cases ok<;>simp[Instr.lookup,run_underlying hu,hck,hf]
 ·cases ok<;>simp[Instr.lookup,run_underlying hu,run_getObj_map hb,hck,hf]
theorem rI {t kt et:TypeId}(hu:P.underlying t=some (.map kt et)) {m' k':Value}{es':Array MapEntry}(hes:(m'=.map none∧es'=#[])∨∃ b n,m'=.map (some b)∧w.heap[b]?=some (.map es' n))
  (hck:(Instr.checkKey es'.isEmpty 10000 kt k').run P w=.ok () w) (hf:(Instr.findKey kt k' es'.toList).run P w=.ok none w) {z:Value}(hz:(zeroValue et).run P w=.ok z w) (ok:Bool) :
  (Instr.lookup t m' k' ok).run P w=.ok (if ok then .tuple #[z,.bool false] else z) w:=by
 rcases hes with ⟨rfl,rfl⟩|⟨b,n,rfl,hb⟩
 ·have hck:(Instr.checkKey true 10000 kt k').run P w=.ok () w:=hck;have hf:(Instr.findKey kt k' []).run P w=.ok none w:=hf;cases ok<;>simp[Instr.lookup,run_underlying hu,hck,hf,hz]
 ·cases ok<;>simp[Instr.lookup,run_underlying hu,run_getObj_map hb,hck,hf,hz]
theorem Gp (hE:bJ P E) (hr:HR P ρ h w) {t:TypeId}{m m' k k' v:Value}{ok:Bool}(e:mh E t m k ok h=some v) (hm:VR ρ m m') (hk:VR ρ k k') :
   ∃ v',(Instr.lookup t m' k' ok).run P w=.ok v' w∧VR ρ v v':=by
 unfold mh at e
 split at e
 · rename_i kt et hu;have hu:=hE.b_ hu an;split at e;· cases e
   · rename_i d hd;cases hc:d_ E 20 kt k with
     | false=>simp[hc]at e
     | true =>
       simp only[hc,cond_true]at e;have hdd:d≠.invalid:=by intro hh;subst hh;unfold d_ at hc;rw[hd]at hc;simp at hc
       have hd:=hE.b_ hd hdd;have fin:∀ (es:List (Value×Value×Nat)) (es':Array MapEntry),MR ρ es es'.toList→((m'=.map none∧es'=#[])∨∃ b n,m'=.map (some b)∧w.heap[b]?=some (.map es' n)) →
           (match lG E kt d k es 0 with|some (some (_,v))=>some (cond ok (.tuple #[v,.bool true]) v)|some none=>(zero E et).map fun z=>cond ok (.tuple #[z,.bool false]) z|none=>none)=some v →
           ∃ v',(Instr.lookup t m' k' ok).run P w=.ok v' w∧VR ρ v v':=by
         intro es es' hmr hrun e
         have hck:=jm hE 20 10000 ao kt k k' hc hk es'.isEmpty w
         split at e
         · rename_i i u ha;cases e;obtain⟨r',e,rr⟩:=j0 hE hd hk ha hmr;cases r' with
           | none=>exact rr.elim
           | some p =>
             obtain⟨j,u'⟩:=p;obtain⟨-,rv⟩:=rr;refine⟨_,q_ hu hrun hck (e w) ok,?_⟩;cases ok;· exact rv
             · exact .tuple _ _ (.cons rv (.cons (.bool _) .nil))
         · rename_i ha;simp only[aY]at e;obtain⟨z,hz,rfl⟩:=e;obtain⟨r',e,rr⟩:=j0 hE hd hk ha hmr;cases r' with
           | some p=>exact rr.elim
           | none =>
             refine⟨_,rI hu hrun hck (e w) (hE.kL hz w) ok,?_⟩;have rz:=VR.const ρ (hE.zero hz).2;cases ok;· exact rz
             · exact .tuple _ _ (.cons rz (.cons (.bool _) .nil))
         · cases e
       split at e
       · cases hko:pT d with
         | false=>rw[hko]at e;cases e
         | true =>
           rw[hko,cond_true]at e
           split at e
           · cases e
           · rename_i es hes;obtain⟨i,b,c,n,es',rfl,rfl,hi,_,e2,hsr⟩:=xT hr hes hm;have hck:=jm hE 20 10000 ao kt k k' hc hk es'.isEmpty w;split at e
             · rename_i u hl;cases e;obtain⟨⟨x,hx,ex⟩,hall⟩:=uK hl;obtain⟨j,v',hfn,rv⟩:=xP (ρ:=ρ) (d:=d) (k':=k') (v:=u) (l:=es'.toList) (i:=0)
                 (fun e he=>by obtain⟨y,hy,ry,ru⟩:=hsr.1 e he;obtain⟨b2,hb2,hbv⟩:=hall y hy;exact⟨b2,kT hb2 hk ry,fun hh=>hbv hh▸ru⟩)
                 (by obtain⟨e,he,ry,_⟩:=hsr.2 x hx;exact⟨e,he,kT ex hk ry⟩)
               refine⟨_,q_ hu (.inr ⟨b,n,rfl,e2⟩) hck (lZ hd hfn) ok,?_⟩;cases ok;· exact rv
               · exact .tuple _ _ (.cons rv (.cons (.bool _) .nil))
             · rename_i hl;simp only[aY]at e;obtain⟨z,hz,rfl⟩:=e;have hfn:Instr.findNow d k' es'.toList 0=some none:=qN fun e he=>by obtain⟨y,hy,ry,_⟩:=hsr.1 e he;exact kT (uK.uP hl y hy) hk ry
               refine⟨_,rI hu (.inr ⟨b,n,rfl,e2⟩) hck (lZ hd hfn) (hE.kL hz w) ok,?_⟩;have rz:=VR.const ρ (hE.zero hz).2;cases ok;· exact rz
               · exact .tuple _ _ (.cons rz (.cons (.bool _) .nil))
             · cases e
       · rename_i es hes;split at hes;· cases hm;cases hes;exact fin [] #[] .nil (.inl ⟨rfl,rfl⟩) e
         · simp only[aY]at hes;obtain⟨⟨es0,n⟩,hes,rfl⟩:=hes;obtain⟨i,b,c,es',rfl,rfl,hi,_,e2,hmr⟩:=jr hr hes hm;exact fin es0 es' hmr (.inr ⟨b,n,rfl,e2⟩) e
 · cases e
theorem EP (hE:bJ P E) {fr:Fr}{a:Act}{o:Oper}{v:Value}(hf:FR E ρ fr a) (hr:HR P ρ h w) (e:gH E fr o h=some v) :
   ∃ v',(execOp a.eval o).run P w=.ok (.value v') w∧VR ρ v v':=by
 unfold gH at e
 split at e
 · rename_i t x ho;split at e;· rename_i u hu;obtain⟨v',e,r⟩:=AB hE hr e (bH hf hu);exact⟨v',by simp[execOp,ho,e],r⟩
   · cases e
 · rename_i t x i ok ho;split at e;· rename_i u1 u2 h1 h2;obtain⟨v',e,r⟩:=Gp hE hr e (bH hf h1) (bH hf h2);exact⟨v',by simp[execOp,ho,e],r⟩
   · cases e
 · rename_i s d x ho;split at e;· rename_i u hu;obtain⟨e,r⟩:=Bu hE hr e (bH hf hu);exact⟨v,by simp[execOp,ho,e],r⟩
   · cases e
 · rename_i c ho;split at e
   · rename_i hb;split at e
     · rename_i t ts x xs ht hx;have r:=kr hf hx;have ht:c.argTypes[0]?=some t:=by
         have:c.argTypes.toList[0]?=some t:=by rw[ht];rfl
         simpa using this
       generalize hce:c.args.map a.eval=ce at r;cases hl:ce.toList with
       | nil=>rw[hl]at r;cases r
       | cons x' xs' =>
         rw[hl]at r
         cases r with
         | cons rx _ =>
           have hx0:ce[0]?=some x':=by
             have:ce.toList[0]?=some x':=by rw[hl];rfl
             simpa using this
           obtain⟨e,r⟩:=MK hE hr (ty:=o.type) ht hx0 e rx
           refine⟨v,?_,r⟩
           simp only[execOp,ho,resolve,hb,Sem.run_bind,Sem.run_pure,Result.andThen_ok,invoke,builtin,hce,e]
     · cases e
   · cases e
 · cases e
end
section
variable {P:Program}{E:Env}{ρ:Ren}
theorem Jx {α:Type}:∀ (n:Nat) (l:List α) (i:Nat),(rep n l)[i]?=if i<n*l.length then l[i%l.length]? else none
 | 0,l,i=>by simp[rep]
 | n+1,l,i=>by
   rw[rep,pE];by_cases h:i<l.length;· rw[if_pos h,if_pos (by rw[Nat.succ_mul];omega),Nat.mod_eq_of_lt h]
   · rw[if_neg h,Jx n l,Nat.succ_mul];by_cases h2:i<n*l.length+l.length;· rw[if_pos ah,if_pos h2,← Nat.mod_eq_sub_mod ah]
     · rw[if_neg ah,if_neg h2]
theorem rY (z:Array Value) (n:Nat) (hz:0<z.size):((Array.range (n*z.size)).map (z[·%z.size]!)).toList=rep n z.toList:=by
 apply List.ext_getElem?;intro i;rw[Jx];simp only[Array.toList_map,Array.toList_range,ie,si];by_cases h:i<n*z.size;·have hm:i%z.size<z.size:=nj _ hz;simp[h,hm]
 ·simp[h]
theorem BR.CQ {l:List Value}{xs:Array Value}(h:eW ρ l xs.toList) (e:TypeId) (c:Nat):BR P ρ c (.cells l e true) (.cells xs e (0,0)) :=
 .cells _ _ _ _ (fun i v hv=>by obtain ⟨v',e,r⟩:=h.get i v hv;exact⟨v',by simpa using e,r⟩) (by simp[h.length])
def JT (P:Program) (ρ:Ren) (s:Sem Next) (k:iY) (mk:Nat→Value):Prop :=
 ∃ (obj:Obj) (mk':Nat→Value),(∀ w:World,s.run P w=.ok (.value (mk' w.heap.size)) { w with heap:=w.heap.push obj })∧BR P ρ 0 k obj∧k≠.dead ∧
   ∀ (ρ':Ren) (i b:Nat),ρ' i=some (b,0)→VR ρ' (mk i) (mk' b)
theorem BN (b:Bool):BR P ρ 0 (cond b (.smap []) (.map [] 0)) (.map #[] 0):=by
 cases b;·exact .map _ _ _ .nil
 ·exact .smap _ _ _ ⟨fun e he=>by simp at he,fun e he=>by cases he⟩
theorem FA (b:Bool):cond b (.smap []) (.map [] 0)≠iY.dead:=by cases b<;>simp
theorem Cw (hE:bJ P E) {fr:Fr}{a:Act}{o:Oper}{k:iY}{mk:Nat→Value}(hf:FR E ρ fr a) (e:gQ E fr o=some (k,mk)) :
   JT P ρ (execOp a.eval o) k mk:=by
 have var:∀ (t:TypeId) (v v':Value),xE t v=some (k,mk)→VR ρ v v'→(∀ w:World,(execOp a.eval o).run P w=((newVar t v').run P w).andThen fun r w'=>.ok (.value (.pointer (some r))) w') →
     JT P ρ (execOp a.eval o) k mk:=by
   intro t v v' hv r hrun
   unfold xE at hv
   cases hall:v.cells.toList.all Ev.aE with
   | false=>simp[hall]at hv
   | true =>
     simp only[hall,cond_true]at hv;cases hv
     exact⟨.cells v'.cells t (0,0),fun b=>.pointer (some ⟨b,0,none⟩),fun w=>by rw[hrun];simp[newVar,newRow],BR.CQ r.cells t 0,an,fun ρ' i b h=>.ptr 0 h⟩
 unfold gQ at e
 split at e
 · rename_i t ho;split at e;· rename_i z hz;exact var t z z e (VR.const ρ (hE.zero hz).2) (fun w=>by simp[execOp,ho,Instr.alloc,hE.kL hz,newVar,newRow])
   · cases e
 · rename_i t x ho;split at e;· rename_i v hv;exact var t v (a.eval x) e (bH hf hv) (fun w=>by simp[execOp,ho,Instr.box,newVar,newRow])
   · cases e
 · rename_i t len ps ho;split at e
   · rename_i l hl;obtain⟨h1,h2⟩:=CW hf hl;unfold tb at e;split at e
     · rename_i elem hu;have hu:=hE.b_ hu an;split at e
       · rename_i i hi;split at e
         · rename_i z hz;rw[ble_eq,e_,e_]at e;by_cases hc:len*i.size≤1000000∧z.cells.toList.length=i.size∧¬i.size=0
           · obtain⟨c1,c2,c3⟩:=hc;simp only[c1,c2,c3,decide_true,decide_false,sE,dP,cond_true]at e;split at e
             · rename_i cs hcs;cases e;obtain⟨info,i1,i2,i3,i4,i5,i6,i7⟩:=hE.qh elem i hi;have hzz:=i6 z hz;have rz:=(VR.const ρ hzz.2).cells;have hsz:z.cells.size=i.size:=by simpa using c2
               have hzr:∀ w:World,(zeroValue elem).run P w=.ok z w:=fun w=>by simp[zeroValue,Go.run_typeInfo w i1,hzz.1]
               have rrep:eW ρ (rep len z.cells.toList) ((Array.range (len*i.size)).map (z.cells[·%z.cells.size]!)).toList:=by
                 rw[← hsz,rY z.cells len ah];have:∀ n,eW ρ (rep n z.cells.toList) (rep n z.cells.toList):=by
                   intro n;induction n with
                   | zero=>exact .nil
                   | succ n ih=>exact rz.append ih
                 exact this len
               obtain⟨l',e,r⟩:=vj (ρ:=ρ) (place:=fun k=>some (k*i.size,i.size)) (place':=fun k=>some (k*i.size,i.size)) (fun i x hx=>hx) hcs rrep (ps':=ps.toList.map fun p=>(p.1,a.eval p.2)) (by simpa using h1) (by simpa using h2);refine⟨.cells l'.toArray elem (0,0),fun b=>.slice (some ⟨b,0,none⟩) len len,fun w=>?_,BR.CQ (by simpa using r) elem 0,an,fun ρ' j b h=>.slice 0 len len h ?_⟩
               · have hs:(sizeOf elem).run P w=.ok i.size w:=by simp[sizeOf,Go.run_typeInfo w i1,i3]
                 have e1:Instr.fill (fun k=>some (k*i.size,i.size)) ((Array.range (len*i.size)).map (z.cells[·%z.cells.size]!)) (ps.map fun p=>(p.1,a.eval p.2)).toList=some l'.toArray:=by rw[Array.toList_map,← Array.toArray_toList (xs:=(Array.range (len*i.size)).map _)];exact e
                 simp only[execOp,ho,Sem.run_bind,Instr.buildSlice,run_underlying hu,Result.andThen_ok,hs,Sem.run_ite];rw[if_neg ah];by_cases h0:len*i.size=0
                 · rw[if_pos h0];have hr0:Array.range (len*i.size)=#[]:=by rw[h0];rfl
                   rw[hr0]at e1 ⊢;simp only[Array.map_empty]at e1 ⊢;simp only[Sem.run_pure,Result.andThen_ok,e1,newRow,Sem.run_bind,run_newObj]
                 · rw[if_neg h0];simp only[Sem.run_bind,hzr,Sem.run_pure,Result.andThen_ok,e1,newRow,run_newObj]
               · have hlen:len≤len*i.size:=Nat.le_mul_of_pos_right _ ah;exact mC (bO hlen c1) (show 1000000<bh by decide)
             · cases e
           · exfalso;have:(decide (len*i.size≤1000000)&&decide (z.cells.toList.length=i.size)&&!decide (i.size=0))=false:=by rw[mZ];intro hh;simp only[aZ,decide_eq_true_eq,ic,decide_eq_false_iff_not]at hh;exact hc ⟨hh.1.1,hh.1.2,hh.2⟩
             rw[this]at e;cases e
         · cases e
       · cases e
     · cases e
   · cases e
 · rename_i t lo co ho;split at e
   · rename_i lv cv hl hc;unfold uN at e;split at e
     · rename_i elem k1 l k2 c hu;have hu:=hE.b_ hu an;have rl:=bH hf hl;have rc:=bH hf hc;generalize hlo:a.eval lo=lv' at rl;generalize hco:a.eval co=cv' at rc;cases rl;cases rc;by_cases hb:0≤l∧l≤c∧c<1000000
       · obtain⟨b1,b2,b3⟩:=hb;simp only[b1,b2,b3,decide_true,dP,cond_true]at e;split at e
         · rename_i i hi;split at e
           · rename_i z hz;rw[ble_eq,e_,e_]at e;by_cases hcc:i.bytes≤10000∧z.cells.toList.length=i.size∧¬i.size=0
             · obtain⟨c1,c2,c3⟩:=hcc;simp only[c1,c2,c3,decide_true,decide_false,sE,dP,cond_true]at e;cases e;obtain⟨info,i1,i2,i3,i4,i5,i6,i7⟩:=hE.qh elem i hi;have hzz:=i6 z hz;have rz:=(VR.const ρ hzz.2).cells;have hsz:z.cells.size=i.size:=by simpa using c2
               have hzr:∀ w:World,(zeroValue elem).run P w=.ok z w:=fun w=>by simp[zeroValue,Go.run_typeInfo w i1,hzz.1]
               have rrep:eW ρ (rep c.toNat z.cells.toList) (rep c.toNat z.cells.toList):=by
                 have:∀ n,eW ρ (rep n z.cells.toList) (rep n z.cells.toList):=by
                   intro n;induction n with
                   | zero=>exact .nil
                   | succ n ih=>exact rz.append ih
                 exact this _
               refine⟨.cells (rep c.toNat z.cells.toList).toArray elem (0,0),fun b=>.slice (some ⟨b,0,none⟩) l.toNat c.toNat,fun w=>?_,BR.CQ (by simpa using rrep) elem 0,an,fun ρ' j b h=>.slice 0 _ _ h ?_⟩
               · have hs:(sizeOf elem).run P w=.ok i.size w:=by simp[sizeOf,Go.run_typeInfo w i1,i3]
                 have w1:IntKind.i64.wrap l=l:=IntWalk.i64_in l ah;have w2:IntKind.i64.wrap c=c:=IntWalk.i64_in c ah;have hbytes:(info.bytes:Int)*c≤10000*1000000:=u6 ah ah ah ah;have hbytes2:(info.bytes:Int)*l≤10000*1000000:=u6 ah ah ah ah;have hlarge:((decide (c<0) || decide ((info.bytes:Int)*c > 2 ^ 48)) || decide (l<0) || decide (l > c))=false:=by simp only[om,decide_eq_false_iff_not];omega
                 have hcells:(Array.range (c.toNat*i.size)).map (z.cells[·%z.cells.size]!)=(rep c.toNat z.cells.toList).toArray:=by apply m_;rw[← hsz,rY z.cells c.toNat ah]
                 simp only[execOp,ho,hlo,hco,Sem.run_bind,Instr.makeSlice,run_underlying hu,Result.andThen_ok,asInt,asIntOf,Sem.run_pure,Go.run_typeInfo w i1,w1,w2,hs,hlarge,dQ,if_false,run_askRoom,Sem.run_ite];by_cases h0:c.toNat*i.size=0
                 · rw[if_pos h0];have hr0:Array.range (c.toNat*i.size)=#[]:=by rw[h0];rfl
                   rw[hr0]at hcells ⊢;simp only[Array.map_empty]at hcells ⊢;simp only[Result.andThen_ok,newRow,Sem.run_bind,run_newObj,Sem.run_pure,hcells]
                 · rw[if_neg h0];simp only[hzr,Result.andThen_ok,newRow,Sem.run_bind,run_newObj,Sem.run_pure,hcells]
               · have:c.toNat<1000000:=ah;exact Nat.lt_trans this ao
             · exfalso;have:(decide (i.bytes≤10000)&&decide (z.cells.toList.length=i.size)&&!decide (i.size=0))=false:=by rw[mZ];intro hh;simp only[aZ,decide_eq_true_eq,ic,decide_eq_false_iff_not]at hh;exact hcc ⟨hh.1.1,hh.1.2,hh.2⟩
               rw[this]at e;cases e
           · cases e
         · cases e
       · exfalso;have:(decide (0≤l)&&decide (l≤c)&&decide (c<1000000))=false:=by rw[mZ];intro hh;simp only[aZ,decide_eq_true_eq]at hh;exact hb ⟨hh.1.1,hh.1.2,hh.2⟩
         rw[this]at e;cases e
     · cases e
   · cases e
 · rename_i t r ho;split at e;· cases e;exact⟨.map #[] 0,fun b=>.map (some b),fun w=>by simp[execOp,ho,Instr.makeMap],BN _,FA _,fun ρ' i b h=>.map h⟩
   · rename_i x kt et hu;have hu:=hE.b_ hu an;split at e;· rename_i k1 n hx;cases e;have rx:=bH hf hx;generalize hxe:a.eval x=xe at rx;cases rx;exact⟨.map #[] 0,fun b=>.map (some b),fun w=>by simp[execOp,ho,Instr.makeMap,hxe,run_underlying hu,asInt,asIntOf],BN _,FA _,fun ρ' i b h=>.map h⟩
     · cases e
   · cases e
 · cases e
end
section
variable {P:Program}{E:Env}{ρ:Ren}{h:ak}{w:World}
def Vi:Next→Option Value
 | .value v=>some v
 | .skip=>some undef
 | _=>none
def Qs (P:Program) (ρ:Ren) (h:ak) (w:World) (s:Sem Next) (v:Value) (h':ak):Prop :=
 ∃ n v' ρ' w',s.run P w=.ok n w'∧Vi n=some v'∧VR ρ' v v'∧dG P ρ h w ρ' h' w'
theorem zK {cs xs r:List Value}{off:Nat}(hr:r=cs.take off++xs++cs.drop (off+xs.length)) (hl:off+xs.length≤cs.length) (i:Nat) :
  r[i]?=if i<off then cs[i]? else if i<off+xs.length then xs[i-off]? else cs[i]?:=by
 subst hr
 have h1:(cs.take off).length=off:=by simp;omega
 rw[jB,pE,h1]
 by_cases a:i<off
 ·rw[if_pos a,if_pos a,jx a]
 ·rw[if_neg a,if_neg a,pE];by_cases b:i<off+xs.length;·rw[if_pos ah,if_pos b]
  ·rw[if_neg ah,if_neg b,kH];congr 1;omega
theorem iZ (hr:HR P ρ h w) {i off b c:Nat}{xs xs':List Value}{h':ak}(hi:ρ i=some (b,c)) (e:du h ⟨i,off,none⟩ xs=some h') (hx:eW ρ xs xs')
   (ho:xs.all Ev.aE=true):∃ w',(storeCells ⟨b,off,none⟩ xs').run P w=.ok () w'∧dG P ρ h w ρ h' w':=by
 unfold du at e
 simp only at e
 split at e
 · cases e;cases hx;exact⟨w,by simp[storeCells],dG.refl hr⟩
 · rename_i hne;obtain⟨k,o,e1,e2,e3⟩:=hr.rj i b c hi;rw[e1]at e;cases e3 with
   | cells cs ys el exact hc hs =>
     simp only[aY]at e;obtain⟨cs',hov,rfl⟩:=e;obtain⟨h1,hcs'⟩:=tv _ _ _ _ hov;have h1:off+xs.length≤cs.length:=by
       rcases h1 with h1|h1;· exact(hne h1).elim
       · exact h1
     have hlen:=hx.length;have hfit:cs.length≤ys.size:=by
       by_cases hz:cs.length=0;· omega
       · obtain⟨v',e',_⟩:=hc (cs.length-1) _ (bw ah);have:=(fq.1 e').1;omega
     have hrun:=run_storeCells_at (P:=P) b off el xs' 0 ys w e2 ah (hx.aE ho);simp only[cj]at hrun;refine⟨_,hrun,?_⟩;refine dG.write hr hi e1 (by simp[soft]) (o':=.cells (ys.toList.take off++xs'++ys.toList.drop (off+xs'.length)).toArray el (0,0)) ?_ ?_ (setRow_heap w b ys _ el (0,0) e2) (fun j hj=>setRow_other w b j _ hj) rfl rfl rfl
     · refine .cells _ _ _ _ (fun j v hv=>?_) ?_
       · rw[zK hcs' h1]at hv;have:=zK (cs:=ys.toList) (xs:=xs') (off:=off) rfl (by simp;omega) j;simp only[AX];rw[this];by_cases a1:j<off;· rw[if_pos a1]at hv ⊢;obtain⟨v',e',r⟩:=hc j v hv;exact⟨v',by simpa using e',r⟩
         · rw[if_neg a1]at hv ⊢;rw[hlen]at hv;by_cases a2:j<off+xs'.length;· rw[if_pos a2]at hv ⊢;exact hx.get _ _ hv
           · rw[if_neg a2]at hv ⊢;obtain⟨v',e',r⟩:=hc j v hv;exact⟨v',by simpa using e',r⟩
       · have:(ys.toList.take off++xs'++ys.toList.drop (off+xs'.length)).toArray.size=ys.size:=by simp;omega
         rw[this];have:cs'.length=cs.length:=by rw[hcs'];simp;omega
         rw[this];exact hs
     · simp[World.setRow]
   | _=>simp at e
theorem Ez (hE:bJ P E) (hr:HR P ρ h w) {t:TypeId}{x x' v v':Value}{h':ak}(e:storeAt E t x v h=some h') (hx:VR ρ x x') (hv:VR ρ v v') :
   ∃ w',(Instr.storeAt t x' v').run P w=.ok () w'∧dG P ρ h w ρ h' w':=by
 unfold storeAt at e
 split at e
 · rename_i a n hs;cases hx with
   | @ptr i b c off hi =>
     by_cases hc:v.cells.toList.length=n∧v.cells.toList.all Ev.aE=true
     · obtain⟨c1,c2⟩:=hc;simp only[e_,c1,c2,decide_true,dP,cond_true]at e;obtain⟨w',hrun,hst⟩:=iZ hr hi e hv.cells c2;refine⟨w',?_,hst⟩;have hsz:v'.cells.size=n:=by rw[← si,← hv.cells.length,c1]
       simp[Instr.storeAt,Instr.sureAddr,storeVar,hE.gW hs,hsz,hrun]
     · exfalso;have:(Nat.beq v.cells.toList.length n&&v.cells.toList.all Ev.aE)=false:=by rw[mZ];intro hh;rw[e_]at hh;simp only[aZ,decide_eq_true_eq]at hh;exact hc hh
       simp only[this,cond_false]at e;cases e
 · cases e
theorem IM {b:Nat}{o o':Obj}(hb:w.heap[b]?=some o) (hn:∀ c e f,o≠.cells c e f):(setObj b o').run P w=.ok () { w with heap:=w.heap.setIfInBounds b o' }:=by cases o<;>first|exact(hn _ _ _ rfl).elim|(simp only[setObj,Sem.run,hb])
theorem heap_set {b:Nat}{o o':Obj}(hb:w.heap[b]?=some o):({ w with heap:=w.heap.setIfInBounds b o' }:World).heap[b]?=some o':=by have:=(fq.1 hb).1;simp[this]
theorem FE {b j:Nat}{o':Obj}(hj:j≠b):({ w with heap:=w.heap.setIfInBounds b o' }:World).heap[j]?=w.heap[j]?:=by simp[bV hj]
theorem iO (hr:HR P ρ h w) {i b c:Nat}{k k':iY}{o o':Obj}(hi:ρ i=some (b,c)) (hk:h.b.get i=some k) (hd:¬soft (some k)) (hb:w.heap[b]?=some o) (hn:∀ c e f,o≠.cells c e f)
  (hbr:BR P ρ c k' o'):(setObj b o').run P w=.ok () { w with heap:=w.heap.setIfInBounds b o' }∧dG P ρ h w ρ { h with b:=h.b.set i k' } { w with heap:=w.heap.setIfInBounds b o' } :=
 ⟨IM hb hn,dG.write hr hi hk hd hbr an (heap_set hb) (fun _ hj=>FE hj) rfl rfl rfl⟩
theorem MR.get {es:List (Value×Value×Nat)}{es':List MapEntry}(hm:MR ρ es es'):∀ (i:Nat) (x:Value×Value×Nat),es[i]?=some x→∃ y,es'[i]?=some y∧VR ρ x.1 y.key∧VR ρ x.2.1 y.val∧x.2.2=y.born:=by
 induction hm with
 | nil=>intro i x h;simp at h
 | cons h1 h2 t ih =>
   intro i x h
   cases i with
   | zero=>simp at h;subst h;exact⟨_,rfl,h1,h2,rfl⟩
   | succ i=>simpa using ih i x (by simpa using h)
theorem MR.append {es fs:List (Value×Value×Nat)}{es' fs':List MapEntry}(hm:MR ρ es es') (hf:MR ρ fs fs'):MR ρ (es++fs) (es'++fs'):=by
 induction hm with
 | nil=>exact hf
 | cons h1 h2 t ih=>exact .cons h1 h2 ih
theorem MR.qT {es:List (Value×Value×Nat)}{es':List MapEntry}(hm:MR ρ es es') {v v':Value}(hv:VR ρ v v'):∀ (i:Nat) (k':Value),(∀ x,es[i]?=some x→VR ρ x.1 k')→MR ρ (Ev.qT es i v) (es'.modify i fun e=>{ e with key:=k',val:=v' }):=by
 induction hm with
 | nil=>intro i k' _;simp only[Ev.qT,List.modify_nil];exact .nil
 | cons h1 h2 t ih =>
   intro i k' hk
   rw[Ev.qT,bF]
   cases i with
   | zero=>simp only[if_true,yW];exact .cons (hk _ rfl) hv t
   | succ i =>
     rw[if_neg ah]
     simp only[Nat.add_sub_cancel,AA]
     exact .cons h1 h2 (ih i k' (fun x hx=>hk x (by simpa using hx)))
theorem Ew {n:Nat}(key:∀ (a b:Value),bt n a b=true→a=b):∀ (l r:List Value),bt.go n l r=true→l=r
 | [],[],_=>rfl
 | [],_::_,h=>by simp[bt.go]at h
 | _::_,[],h=>by simp[bt.go]at h
 | x::l,y::r,h=>by simp only[bt.go,aZ]at h;rw[key _ _ h.1,Ew key _ _ h.2]
theorem addr_eq {a b:Addr}(h:(Nat.beq a.block b.block&&Nat.beq a.off b.off&&a.spot.isNone&&b.spot.isNone)=true):a=b:=by simp only[e_,aZ,decide_eq_true_eq,tM]at h;obtain⟨⟨⟨h1,h2⟩,h3⟩,h4⟩:=h;cases a;cases b;simp_all
theorem wA:∀ (n:Nat) (a b:Value),bt n a b=true→a=b
 | 0,a,b,h=>by
   unfold bt at h;split at h;· simpa using h
   · simp only[aZ,decide_eq_true_eq,beq_iff_eq]at h;rw[h.1,h.2]
   · simp only[aZ,decide_eq_true_eq,beq_iff_eq]at h;rw[h.1,h.2]
   · rw[AD h]
   · rfl
   · rw[addr_eq h]
   · simp only[e_,aZ,decide_eq_true_eq]at h;rw[h.1,h.2]
   · simp only[aZ,e_,decide_eq_true_eq,tM]at h;obtain⟨⟨⟨⟨⟨h1,h2⟩,h3⟩,h4⟩,h5⟩,h6⟩:=h;rename_i x _ _ y _ _;cases x;cases y;simp_all
   · rfl
   · simp only[e_,decide_eq_true_eq]at h;rw[h]
   · rfl
   · rfl
   · rename_i e;cases e
   · rename_i e;cases e
   · rename_i e;cases e
   · rename_i e;cases e
   · cases h
 | n+1,a,b,h=>by
   have ih:=wA n;have ihl:=Ew ih;unfold bt at h;split at h;· simpa using h
   · simp only[aZ,decide_eq_true_eq,beq_iff_eq]at h;rw[h.1,h.2]
   · simp only[aZ,decide_eq_true_eq,beq_iff_eq]at h;rw[h.1,h.2]
   · rw[AD h]
   · rfl
   · rw[addr_eq h]
   · simp only[e_,aZ,decide_eq_true_eq]at h;rw[h.1,h.2]
   · simp only[aZ,e_,decide_eq_true_eq,tM]at h;obtain⟨⟨⟨⟨⟨h1,h2⟩,h3⟩,h4⟩,h5⟩,h6⟩:=h;rename_i x _ _ y _ _;cases x;cases y;simp_all
   · rfl
   · simp only[e_,decide_eq_true_eq]at h;rw[h]
   · rfl
   · rfl
   · rename_i e;cases e;simp only[aZ,e_,decide_eq_true_eq]at h;obtain⟨⟨h1,h2⟩,h3⟩:=h;rw[h1,pw.1 (ihl _ _ h2),pw.1 (ihl _ _ h3)]
   · rename_i e;cases e;simp only[aZ,e_,decide_eq_true_eq]at h;rw[h.1,ih _ _ h.2]
   · rename_i e;cases e;rw[pw.1 (ihl _ _ h)]
   · rename_i e;cases e;rw[pw.1 (ihl _ _ h)]
   · cases h
end
section
variable {P:Program}{E:Env}{ρ:Ren}{h:ak}{w:World}
theorem pz (old new:Value) (w:World):∃ n:Nat,(Instr.keyThatStays old new).run P w=.ok new { w with drawn:=n }∨(Instr.keyThatStays old new).run P w=.ok old { w with drawn:=n }:=by
 unfold Instr.keyThatStays;split;·exact⟨w.drawn,.inl rfl⟩
 ·have hf:(Question.extern "map.whichKeyStays" 2).forced=false:=rfl;simp only[Sem.run_bind,run_choose,hf,dQ,if_false];refine⟨w.drawn+1,?_⟩;simp only[Result.andThen_ok,Sem.run_pure];split;·exact .inl rfl
  ·exact .inr rfl
theorem qu {t:TypeId}{k:Value}{n:Nat}(hc:d_ E n t k=true) {d:TypeDesc}(hd:b_ E t=some d):d≠.invalid:=by
 intro hh;subst hh;cases n with
 | zero=>simp[d_]at hc
 | succ n =>
   unfold d_ at hc
   rw[hd]at hc
   simp at hc
theorem FF (hr:HR P ρ h w) (n:Nat):HR P ρ h { w with drawn:=n }:=hr.of_heap rfl
theorem UI (a b:Nat):Nat.blt a b=decide (a<b):=by
 cases h:Nat.blt a b with
 | true=>exact(decide_eq_true (by simpa[mM]using h)).symm
 | false =>
   refine(decide_eq_false fun hh=>?_).symm
   have h2:Nat.blt a b=true:=by rw[mM];exact hh
   rw[h2]at h;cases h
theorem Un (a b:Nat):Nat.beq a b=decide (a=b):=by
 cases h:Nat.beq a b with
 | true=>exact(decide_eq_true (eY h)).symm
 | false=>exact(decide_eq_false (mj h)).symm
theorem u5 {c:Nat}{k v:Value}:∀ {es r:List (Nat×Value×Value)},Mi c k v es=some r→∀ x,x∈r↔x=(c,k,v)∨x∈es
 | [],r,h,x=>by simp only[Mi,aS]at h;subst h;simp
 | e::es,r,h,x=>by
   simp only[Mi,UI,Un]at h;by_cases h1:e.1<c
   · simp only[h1,decide_true,cond_true,aY]at h;obtain⟨q,hq,rfl⟩:=h;simp only[cM,u5 hq x];constructor
     · rintro(h|h|h);· exact .inr (.inl h)
       · exact .inl h
       · exact .inr (.inr h)
     · rintro(h|h|h);· exact .inr (.inl h)
       · exact .inl h
       · exact .inr (.inr h)
   · by_cases h2:c=e.1;· simp[h1,h2]at h
     · simp only[h1,h2,decide_false,cond_false,aS]at h;subst h;simp
theorem OP {o:Option Bool}:Jn o=true↔o=some false:=by unfold Jn;split<;>simp_all
theorem Km {d:TypeDesc}{k v:Value}{es r:List (Nat×Value×Value)}(h:YR d k v es=some r) :
   ∃ c,Xf k=some c∧Mi c k v es=some r∧∀ x∈es,mX d k x.2.1=some false:=by
 unfold YR at h
 split at h
 · rename_i c hc;cases ha:es.all (fun x=>Jn (mX d k x.2.1)) with
   | false=>rw[ha]at h;cases h
   | true =>rw[ha,cond_true]at h;exact⟨c,hc,h,fun x hx=>OP.1 (dX.1 ha x hx)⟩
 · cases h
theorem sB (hE:bJ P E) (hr:HR P ρ h w) {t:TypeId}{m m' k k' v v':Value}{h':ak}(e:jT E t m k v h=some h') (hm:VR ρ m m') (hk:VR ρ k k') (hv:VR ρ v v') :
   ∃ w',(Instr.mapUpdate t m' k' v').run P w=.ok () w'∧dG P ρ h w ρ h' w':=by
 unfold jT at e
 split at e
 · rename_i kt et r hu;have hu:=hE.b_ hu an;split at e
   · rename_i d es c hd hg;cases hc:d_ E 20 kt k with
     | false=>simp[hc]at e
     | true =>
       simp only[hc,cond_true]at e;have hd:=hE.b_ hd (qu hc hd);obtain⟨i,b,c',es',hmi,rfl,hi,e1,e2,hmr⟩:=jr hr hg hm;cases hmi;have hck:=fun w=>jm hE 20 10000 ao kt k k' hc hk false w;split at e
       · rename_i j u ha;obtain⟨r',ef,rr⟩:=j0 hE hd hk ha hmr;cases r' with
         | none=>exact rr.elim
         | some p =>
           obtain⟨j',u'⟩:=p;obtain⟨rfl,rv⟩:=rr;rw[dL]at e;cases hj:es[j]? with
           | none=>simp[hj]at e
           | some x =>
             simp only[hj]at e
             cases hs:bt 50 x.1 k with
             | false=>simp[hs]at e
             | true =>
               simp only[hs,cond_true]at e;cases e
               have hxk:=wA _ _ _ hs
               obtain⟨y,hy,ry,_⟩:=hmr.get j x hj
               have hy:es'[j]?=some y:=by simpa using hy
               have fin:∀ (key:Value) (n:Nat),VR ρ x.1 key→(Instr.keyThatStays y.key k').run P w=.ok key { w with drawn:=n } →
                   ∃ w',(Instr.mapUpdate t (.map (some b)) k' v').run P w=.ok () w'∧dG P ρ h w ρ { h with b:=h.b.set r (.map (Ev.qT es j v) c) } w':=by
                 intro key n rkey hkey
                 have hbr:BR P ρ c' (.map (Ev.qT es j v) c) (.map (es'.modify j fun e=>{ e with key,val:=v' }) c):=by refine .map _ _ _ ?_;rw[A8];exact hmr.qT hv j key (fun z hz=>by rw[hj]at hz;cases hz;exact rkey)
                 obtain⟨o1,o2⟩:=iO (P:=P) (FF hr n) hi e1 (by simp[soft]) (w:={ w with drawn:=n }) e2 an hbr
                 refine⟨_,?_,(dG.draw hr n).trans o2⟩
                 simp only[Instr.mapUpdate,Sem.run_bind,run_underlying hu,Result.andThen_ok,run_getObj_map e2,hck,ef,hy,bS,lz,hkey]
                 exact o1
               obtain⟨n,hh|hh⟩:=pz (P:=P) y.key k' w
               · exact fin k' n (by rw[hxk];exact hk) hh
               · exact fin y.key n ry hh
       · rename_i ha;cases e;obtain⟨r',ef,rr⟩:=j0 hE hd hk ha hmr;cases r' with
         | some p=>exact rr.elim
         | none =>
           have hbr:BR P ρ c' (.map (es++[(k,v,c)]) (c+1)) (.map (es'.push { key:=k',val:=v',born:=c }) (c+1)):=by refine .map _ _ _ ?_;rw[u7];exact hmr.append (.cons hk hv .nil)
           obtain⟨o1,o2⟩:=iO (P:=P) hr hi e1 (by simp[soft]) e2 an hbr;refine⟨_,?_,o2⟩;simp only[Instr.mapUpdate,Sem.run_bind,run_underlying hu,Result.andThen_ok,run_getObj_map e2,hck,ef];exact o1
       · cases e
   · rename_i d hd hg;cases hko:(pT d&&d_ E 20 kt k) with
     | false=>rw[hko]at e;cases e
     | true =>
       rw[hko,cond_true]at e;simp only[aZ]at hko;obtain⟨hk1,hc⟩:=hko;have hd:=hE.b_ hd (qu hc hd);split at e;· cases e
       · rename_i es hes;simp only[aY]at e;obtain⟨es1,hadd,rfl⟩:=e;obtain⟨i,b,c',n,es',hmi,rfl,hi,e1,e2,hsr⟩:=xT hr hes hm;cases hmi;have hck:=fun w=>jm hE 20 10000 ao kt k k' hc hk false w;obtain⟨c,-,hins,hall⟩:=Km hadd;have hfn:Instr.findNow d k' es'.toList 0=some none:=qN fun e he=>by obtain⟨y,hy,ry,_⟩:=hsr.1 e he;exact kT (hall y hy) hk ry
         have ef:=fun w=>lZ (P:=P) (w:=w) hd hfn;have hbr:BR P ρ c' (.smap es1) (.map (es'.push { key:=k',val:=v',born:=n }) (n+1)):=by
           refine .smap _ _ _ ⟨fun e he=>?_,fun x hx=>?_⟩
           · rw[u7,dV]at he;rcases he with he|he;· obtain⟨y,hy,r1,r2⟩:=hsr.1 e he;exact⟨y,(u5 hins y).2 (.inr hy),r1,r2⟩
             · simp only[jC]at he;subst he;exact⟨(c,k,v),(u5 hins _).2 (.inl rfl),hk,hv⟩
           · rw[u7];rcases(u5 hins x).1 hx with rfl|hx;· exact⟨_,qg _ (jC.2 rfl),hk,hv⟩
             · obtain⟨e,he,r1,r2⟩:=hsr.2 x hx;exact⟨e,jw _ he,r1,r2⟩
         obtain⟨o1,o2⟩:=iO (P:=P) hr hi e1 (by simp[soft]) e2 an hbr;refine⟨_,?_,o2⟩;simp only[Instr.mapUpdate,Sem.run_bind,run_underlying hu,Result.andThen_ok,run_getObj_map e2,hck,ef];exact o1
   · cases e
 · cases e
theorem MR.XJ {es:List (Value×Value×Nat)}{es':List MapEntry}(hm:MR ρ es es'):∀ (i:Nat) (k':Value),(∀ x,es[i]?=some x→VR ρ x.1 k')→MR ρ es (es'.modify i fun e=>{ e with key:=k' }):=by
 induction hm with
 | nil=>intro i k' _;simp only[List.modify_nil];exact .nil
 | cons h1 h2 t ih =>
   intro i k' hk
   cases i with
   | zero=>simp only[yW];exact .cons (hk _ rfl) h2 t
   | succ i =>
     simp only[AA]
     exact .cons h1 h2 (ih i k' (fun x hx=>hk x (by simpa using hx)))
theorem Bq (hE:bJ P E) (hr:HR P ρ h w) {t:TypeId}{m m' k k' v:Value}{h':ak}(e:xH E t m k h=some (v,h')) (hm:VR ρ m m') (hk:VR ρ k k') :
   ∃ v' w',(Instr.mapEntry t m' k').run P w=.ok v' w'∧VR ρ v v'∧dG P ρ h w ρ h' w':=by
 unfold xH at e
 split at e
 · rename_i kt et r hu;have hu:=hE.b_ hu an;split at e
   · rename_i d es c hd hg;cases hc:d_ E 20 kt k with
     | false=>simp[hc]at e
     | true =>
       simp only[hc,cond_true]at e;have hd:=hE.b_ hd (qu hc hd);obtain⟨i,b,c',es',hmi,rfl,hi,e1,e2,hmr⟩:=jr hr hg hm;cases hmi;have hck:=fun w=>jm hE 20 10000 ao kt k k' hc hk false w;split at e
       · rename_i j u ha;obtain⟨r',ef,rr⟩:=j0 hE hd hk ha hmr;cases r' with
         | none=>exact rr.elim
         | some p =>
           obtain⟨j',u'⟩:=p;obtain⟨rfl,rv⟩:=rr;rw[dL]at e;cases hj:es[j]? with
           | none=>simp[hj]at e
           | some x =>
             simp only[hj]at e
             cases hs:bt 50 x.1 k with
             | false=>simp[hs]at e
             | true =>
               simp only[hs,cond_true]at e;cases e
               have hxk:=wA _ _ _ hs
               obtain⟨y,hy,ry,_,rb⟩:=hmr.get j x hj
               have hy:es'[j]?=some y:=by simpa using hy
               have fin:∀ (key:Value) (n:Nat),VR ρ x.1 key→(Instr.keyThatStays y.key k').run P w=.ok key { w with drawn:=n } →
                   ∃ v' w',(Instr.mapEntry t (.map (some b)) k').run P w=.ok v' w'∧VR ρ (.tuple #[u,.int .i64 x.2.2]) v'∧dG P ρ h w ρ { h with b:=h.b.set r (.map es c) } w':=by
                 intro key n rkey hkey
                 have hbr:BR P ρ c' (.map es c) (.map (es'.modify j fun e=>{ e with key }) c):=by refine .map _ _ _ ?_;rw[A8];exact hmr.XJ j key (fun z hz=>by rw[hj]at hz;cases hz;exact rkey)
                 obtain⟨o1,o2⟩:=iO (P:=P) (FF hr n) hi e1 (by simp[soft]) (w:={ w with drawn:=n }) e2 an hbr
                 refine⟨.tuple #[u',goInt y.born],_,?_,.tuple _ _ (.cons rv (.cons (by rw[rb];exact .int _ _) .nil)),(dG.draw hr n).trans o2⟩
                 simp only[Instr.mapEntry,Sem.run_bind,run_underlying hu,Result.andThen_ok,run_getObj_map e2,hck,ef,hy,bS,lz,hkey,o1,Sem.run_pure]
               obtain⟨n,hh|hh⟩:=pz (P:=P) y.key k' w
               · exact fin k' n (by rw[hxk];exact hk) hh
               · exact fin y.key n ry hh
       · rename_i ha;simp only[aY,bA]at e;obtain⟨z,hz,rfl,rfl⟩:=e;obtain⟨r',ef,rr⟩:=j0 hE hd hk ha hmr;cases r' with
         | some p=>exact rr.elim
         | none =>
           have rz:=VR.const ρ (hE.zero hz).2;have hbr:BR P ρ c' (.map (es++[(k,z,c)]) (c+1)) (.map (es'.push { key:=k',val:=z,born:=c }) (c+1)):=by refine .map _ _ _ ?_;rw[u7];exact hmr.append (.cons hk rz .nil)
           obtain⟨o1,o2⟩:=iO (P:=P) hr hi e1 (by simp[soft]) e2 an hbr;refine⟨.tuple #[z,goInt c],_,?_,.tuple _ _ (.cons rz (.cons (.int _ _) .nil)),o2⟩;simp only[Instr.mapEntry,Sem.run_bind,run_underlying hu,Result.andThen_ok,run_getObj_map e2,hck,ef,hE.kL hz,o1,Sem.run_pure]
       · cases e
   · cases e
 · cases e
theorem ye {v v':Value}(hv:VR ρ v v') (n:Int):∀ {es:List (Value×Value×Nat)}{es':List MapEntry}{r:List (Value×Value×Nat)},wx es n v=some r→MR ρ es es' →
   ∃ i,es'.findIdx? (fun e=>(e.born:Int)==n)=some i∧MR ρ r (es'.modify i fun e=>{ e with val:=v' })
 | [],es',r,h,hm=>by simp[wx]at h
 | (k,u,b)::es,es',r,h,hm=>by
   cases hm with
   | cons h1 h2 t =>
     rw[wx]at h
     cases hb:((b:Int)==n) with
     | true =>
       simp only[hb,cond_true]at h;cases h
       exact⟨0,by simp[List.findIdx?_cons,hb],by simp only[yW];exact .cons h1 hv t⟩
     | false =>
       simp only[hb,cond_false,aY]at h
       obtain⟨q,hq,rfl⟩:=h
       obtain⟨i,e,r⟩:=ye hv n hq t
       exact⟨i+1,by simp[List.findIdx?_cons,hb,e],by simp only[AA];exact .cons h1 h2 r⟩
theorem yp (hr:HR P ρ h w) {t:TypeId}{m m' s s' v v':Value}{h':ak}(e:sd m s v h=some h') (hm:VR ρ m m') (hs:VR ρ s s') (hv:VR ρ v v') :
  ∃ w',(Instr.entryStore t m' s' v').run P w=.ok () w'∧dG P ρ h w ρ h' w':=by
 unfold sd at e
 split at e
 ·rename_i r k n es c hg;simp only[aY]at e;obtain⟨q,hq,rfl⟩:=e;obtain⟨i,b,c',es',hmi,rfl,hi,e1,e2,hmr⟩:=jr hr hg hm;cases hmi;cases hs;obtain⟨j,hj,hmr2⟩:=ye hv n hq hmr;have hj:es'.findIdx? (fun e=>(e.born:Int)==n)=some j:=by cases es';simpa using hj
  have hbr:BR P ρ c' (.map q c) (.map (es'.modify j fun e=>{ e with val:=v' }) c):=by refine .map _ _ _ ?_;rw[A8];exact hmr2
  obtain⟨o1,o2⟩:=iO (P:=P) hr hi e1 (by simp[soft]) e2 an hbr;refine⟨_,?_,o2⟩;simp only[Instr.entryStore,Sem.run_bind,Result.andThen_ok,run_getObj_map e2,asInt,asIntOf,Sem.run_pure,hj];exact o1
 ·cases e
theorem MR.erase {es:List (Value×Value×Nat)}{es':List MapEntry}(hm:MR ρ es es'):∀ i:Nat,MR ρ (es.take i++es.drop (i+1)) (es'.eraseIdx i):=by
 induction hm with
 | nil=>intro i;simp;exact .nil
 | cons h1 h2 t ih =>
   intro i
   cases i with
   | zero=>simpa using t
   | succ i=>simpa using MR.cons h1 h2 (ih i)
theorem FM (hE:bJ P E) (hr:HR P ρ h w) {t ty:TypeId}{ts:Array TypeId}{xs:Array Value}{m m' k k':Value}{h':ak}(ht:ts[0]?=some t) (hx0:xs[0]?=some m') (hx1:xs[1]?=some k')
   (e:Dy E t m k h=some h') (hm:VR ρ m m') (hk:VR ρ k k') :
   ∃ w',(Builtin.delete_ ts ty xs).run P w=.ok undef w'∧dG P ρ h w ρ h' w':=by
 unfold Dy at e
 split at e
 · rename_i kt et hu;have hu:=hE.b_ hu an;cases hc:d_ E 20 kt k with
   | false=>simp[hc]at e
   | true =>simp only[hc,cond_true]at e;cases e;cases hm;refine⟨w,?_,dG.refl hr⟩;simp[Builtin.delete_,ht,hx0,hx1,run_underlying hu,jm hE 20 10000 ao kt k k' hc hk true w,undef]
 · rename_i kt et r hu;have hu:=hE.b_ hu an;split at e
   · rename_i d es c hd hg;cases hc:d_ E 20 kt k with
     | false=>simp[hc]at e
     | true =>
       simp only[hc,cond_true]at e;have hd:=hE.b_ hd (qu hc hd);obtain⟨i,b,c',es',hmi,rfl,hi,e1,e2,hmr⟩:=jr hr hg hm;cases hmi;have hck:=fun em w=>jm hE 20 10000 ao kt k k' hc hk em w;split at e
       · rename_i j u ha;cases e;obtain⟨r',ef,rr⟩:=j0 hE hd hk ha hmr;cases r' with
         | none=>exact rr.elim
         | some p =>
           obtain⟨j',u'⟩:=p;obtain⟨rfl,rv⟩:=rr;have hbr:BR P ρ c' (.map (es.take j++uX es (j+1)) c) (.map (es'.eraseIdxIfInBounds j) c):=by refine .map _ _ _ ?_;rw[jJ,Array.toList_eraseIdxIfInBounds];exact hmr.erase j
           obtain⟨o1,o2⟩:=iO (P:=P) hr hi e1 (by simp[soft]) e2 an hbr;refine⟨_,?_,o2⟩;simp[Builtin.delete_,ht,hx0,hx1,run_underlying hu,run_getObj_map e2,hck,ef,o1,undef]
       · rename_i ha;cases e;obtain⟨r',ef,rr⟩:=j0 hE hd hk ha hmr;cases r' with
         | some p=>exact rr.elim
         | none =>have hbr:BR P ρ c' (.map es c) (.map es' c):=.map _ _ _ hmr;obtain⟨o1,o2⟩:=iO (P:=P) hr hi e1 (by simp[soft]) e2 an hbr;refine⟨_,?_,o2⟩;simp[Builtin.delete_,ht,hx0,hx1,run_underlying hu,run_getObj_map e2,hck,ef,o1,undef]
       · cases e
   · cases e
 · cases e
end
section
variable {P:Program}{E:Env}{ρ:Ren}{h:ak}{w:World}
theorem Df (hr:HR P ρ h w) {k:iY}{o:Obj}(hb:BR P ρ 0 k o):(newObj o).run P w=.ok w.heap.size { w with heap:=w.heap.push o } ∧
  dG P ρ h w (ρ.Er h.n (w.heap.size,0)) (ai h k) { w with heap:=w.heap.push o }∧VR (ρ.Er h.n (w.heap.size,0)) (.pointer (some ⟨h.n,0,none⟩)) (.pointer (some ⟨w.heap.size,0,none⟩)) :=
 ⟨rfl,dG.alloc hr hb rfl rfl rfl rfl,.ptr 0 (Ren.dD _ _ _)⟩
theorem HY (hE:bJ P E) (hr:HR P ρ h w) {t:TypeId}{x x' v:Value}{h':ak}(e:Al E t x h=some (v,h')) (hx:VR ρ x x') :
  ∃ v' ρ' w',(Instr.range t x').run P w=.ok v' w'∧VR ρ' v v'∧dG P ρ h w ρ' h' w':=by
 unfold Al at e
 split at e
 ·rename_i s hu;have hu:=hE.b_ hu an;cases e;cases hx;obtain⟨h1,h2,h3⟩:=Df hr (BR.im (P:=P) (ρ:=ρ) (c:=0) s 0);exact⟨_,_,_,by simp[Instr.range,run_underlying hu],h3,h2⟩
 ·rename_i kt et hu;have hu:=hE.b_ hu an;cases e;cases hx;obtain⟨h1,h2,h3⟩:=Df hr (BR.Ej (P:=P) (ρ:=ρ) (c:=0) 0 [] 0);exact⟨_,_,_,by simp[Instr.range,run_underlying hu],h3,h2⟩
 ·rename_i kt et m hu;have hu:=hE.b_ hu an;split at e;·rename_i es c hg;cases e;obtain⟨i,b,c',es',hmi,rfl,hi,e1,e2,hmr⟩:=jr hr hg hx;cases hmi;obtain⟨h1,h2,h3⟩:=Df hr (BR.nU (P:=P) (c:=0) hi c [] c);exact⟨_,_,_,by simp[Instr.range,run_underlying hu,run_getObj_map e2],h3,h2⟩
  ·cases e
 ·cases e
theorem MR.filter {es:List (Value×Value×Nat)}{es':List MapEntry}(hm:MR ρ es es') (p:Nat→Bool):MR ρ (es.filter fun e=>p e.2.2) (es'.filter fun e=>p e.born):=by
 induction hm with
 | nil=>exact .nil
 | cons h1 h2 t ih =>
   rename_i n _ _
   simp only[List.filter_cons]
   cases p n
   · exact ih
   · exact .cons h1 h2 ih
theorem MR.all {es:List (Value×Value×Nat)}{es':List MapEntry}(hm:MR ρ es es') (p:Nat→Bool):(es'.all fun e=>p e.born)=(es.all fun e=>p e.2.2):=by
 induction hm with
 | nil=>rfl
 | cons h1 h2 t ih=>simp[ih]
theorem uI {b:Nat}{o:Obj}(hb:w.heap[b]?=some o) (hn:∀ c e f,o≠.cells c e f):(getObj b).run P w=.ok o w:=by cases o<;>first|exact(hn _ _ _ rfl).elim|(simp only[getObj,Sem.run,hb])
theorem LZ (hr:HR P ρ h w) {it it' v:Value}{str:Bool}{ty:TypeId}{h':ak}(e:BV it str h=some (v,h')) (hx:VR ρ it it') :
   ∃ v' w',(Instr.next it' str ty).run P w=.ok v' w'∧VR ρ v v'∧dG P ρ h w ρ h' w':=by
 unfold BV at e
 split at e
 · rename_i r sp;cases hx with
   | @ptr _ b c _ hi =>
     obtain⟨k,o,e1,e2,e3⟩:=hr.rj r b c hi;rw[e1]at e;cases e3 with
     | im s pos =>
       cases str with
       | false=>simp at e
       | true =>
         simp only[blt_eq]at e
         have hg:=uI (P:=P) e2 an
         by_cases hp:pos<s.size
         · simp only[hp,decide_true,cond_true]at e;cases e;have hbr:BR P ρ c (.im s (pos+(Utf8.decode s pos).2)) (.stringIter s (pos+(Utf8.decode s pos).2)):=.im _ _;obtain⟨o1,o2⟩:=iO (P:=P) hr hi e1 (by simp[soft]) e2 an hbr;refine⟨.tuple #[.bool true,goInt pos,.int .i32 (Utf8.decode s pos).1],_,?_,.tuple _ _ (.cons (.bool _) (.cons (.int _ _) (.cons (.int _ _) .nil))),o2⟩;simp only[Instr.next,Sem.run_bind,hg,Result.andThen_ok,hp,if_true,o1,Sem.run_pure]
         · simp only[hp,decide_false,cond_false]at e;cases e;refine⟨.tuple #[.bool false],w,?_,.tuple _ _ (.cons (.bool _) .nil),dG.refl hr⟩;simp only[Instr.next,Sem.run_bind,hg,Result.andThen_ok,hp,if_false,Sem.run_pure]
     | Ej since seen last =>
       cases str with
       | true=>simp at e
       | false =>
         simp only at e;cases e
         have hg:=uI (P:=P) e2 an
         refine⟨.tuple #[.bool false],w,?_,.tuple _ _ (.cons (.bool _) .nil),dG.refl hr⟩
         simp only[Instr.next,Sem.run_bind,hg,Result.andThen_ok,Sem.run_pure]
     | @nU m bm cm hm since seen last =>
       cases str with
       | true=>simp at e
       | false =>
         simp only at e
         have hg:=uI (P:=P) e2 an
         split at e
         · rename_i es clk hgm;obtain⟨i,b',c',es',hmi,hmi',hi',e1',e2',hmr⟩:=jr hr hgm (.map hm);cases hmi;cases hmi';have hlenE:es.isEmpty=es'.isEmpty:=by
             have hl:=hmr.length;cases es' with
             | mk l=>cases es<;>cases l<;>simp_all
           cases hcond:(!seen.isEmpty&&!es.isEmpty&&es.all fun e=>Nat.ble last e.2.2) with
           | true=>simp[hcond]at e
           | false =>
             simp only[hcond,cond_false]at e
             have hcond':(!seen.toArray.isEmpty&&!es'.isEmpty&&es'.all (·.born≥last))=false:=by
               rw[← hlenE,← hcond];congr 1;· simp
               · rw[← Array.all_toList,hmr.all (fun n=>decide (n≥last))];congr 1;funext x;rw[ble_eq]
             have hfil:=hmr.filter (fun n=>!seen.contains n)
             have hleft:(es'.filter fun e=>!seen.toArray.contains e.born).toList=es'.toList.filter fun e=>!seen.contains e.born:=an
             split at e
             · rename_i hl;cases e;rw[hl]at hfil;refine⟨.tuple #[.bool false],w,?_,.tuple _ _ (.cons (.bool _) .nil),dG.refl hr⟩;have hl':(es'.filter fun e=>!seen.toArray.contains e.born)=#[]:=by
                 apply m_;rw[hleft];cases hq:es'.toList.filter fun e=>!seen.contains e.born with
                 | nil=>rfl
                 | cons x l=>rw[hq]at hfil;cases hfil
               have hf:(Question.mapNext 1).forced=true:=rfl;simp only[Instr.next,Sem.run_bind,hg,run_getObj_map e2',Result.andThen_ok,hcond',dQ,if_false,hl'];simp[hf]
             · rename_i k0 v0 b0 hl;rw[hl]at hfil;rw[blt_eq]at e;by_cases hb0:b0<since
               · simp only[hb0,decide_true,cond_true]at e;cases e;cases hq:es'.toList.filter fun e=>!seen.contains e.born with
                 | nil=>rw[hq]at hfil;cases hfil
                 | cons x l =>
                   rw[hq]at hfil;cases hfil with
                   | cons rk rv t =>
                     cases t
                     rename_i kk vv
                     have hl':(es'.filter fun e=>!seen.toArray.contains e.born)=#[{ key:=kk,val:=vv,born:=b0 }]:=by apply m_;rw[hleft,hq]
                     have hf:(Question.mapNext 1).forced=true:=rfl
                     have hnb:¬b0≥since:=ah
                     have hbr:BR P ρ c (.nU (some m) since (seen++[b0]) clk) (.mapIter (some bm) since (seen++[b0]).toArray clk):=.nU hm since (seen++[b0]) clk
                     obtain⟨o1,o2⟩:=iO (P:=P) hr hi e1 (by simp[soft]) e2 an hbr
                     refine⟨.tuple #[.bool true,kk,vv],_,?_,.tuple _ _ (.cons (.bool _) (.cons rk (.cons rv .nil))),o2⟩
                     simp only[Instr.next,Sem.run_bind,hg,run_getObj_map e2',Result.andThen_ok,hcond',dQ,if_false,hl']
                     simp[hf,hb0,hnb,o1]
               · simp[hb0]at e
             · cases e
         · cases e
     | _=>simp at e
 · cases e
theorem BT {x x':Value}{n:Nat}(e:lenOf x=some n) (hx:VR ρ x x') (w:World):(Builtin.lenOf x').run P w=.ok n w:=by
 unfold lenOf at e;split at e;·cases e;cases hx<;>simp[Builtin.lenOf]
 ·cases e;cases hx;simp[Builtin.lenOf]
 ·cases e
theorem yZ {ρ:Ren}{a:Addr}{n c:Nat}{x':Value}(hx:VR ρ (.slice (some a) n c) x') :
  (∃ b d c',ρ a.block=some (b,d)∧a.spot=none∧x'=.slice (some ⟨b,a.off,none⟩) n c')∨(n=0∧c=fb∧∃ a' c',x'=.slice (some a') 0 c'):=by
 cases hx with
 | slice off _ _ h hc=>exact .inl ⟨_,_,_,h,rfl,rfl⟩
 | g_ off _ _ h _ _ _=>exact .inl ⟨_,_,_,h,rfl,rfl⟩
 | iQ _ a' c'=>exact .inr ⟨rfl,rfl,a',c',rfl⟩
theorem nF (hr:HR P ρ h w) {sz n:Nat}{x x':Value}{l:List Value}(e:firstCells h sz n x=some l) (hx:VR ρ x x') (hn:∀ a c,x=.slice a 0 c→n=0) :
  ∃ l':List Value,(∀ w2:World,w2.heap=w.heap→(Builtin.firstCells sz n x').run P w2=.ok l'.toArray w2)∧eW ρ l l'∧l.length=n*sz:=by
 unfold firstCells at e
 split at e
 ·rename_i a len cap;rcases yZ hx with ⟨b,d,c',hb,hs,rfl⟩|⟨h0,_,a',c',rfl⟩;·obtain⟨bl,off,sp⟩:=a;simp only at hs;subst hs;obtain⟨l',r,hlen,hc⟩:=lB hr hb e;refine⟨l',fun w2 hw2=>?_,r,hlen⟩;have:=run_loadCells_list (P:=P) w2 _ l' (fun j v' e=>by have:=hc j v' e;simpa[World.cell?,hw2]using this);rw[← r.length,hlen]at this;simpa[Builtin.firstCells]using this
  ·subst h0;have:=hn _ _ rfl;subst this;simp[av]at e;subst e;exact⟨[],fun w2 _=>by simp[Builtin.firstCells,loadCells,loadCellsFrom],.nil,an⟩
 ·rename_i len cap;rw[bF]at e;split at e;·rename_i h0;cases e;cases hx;subst h0;exact⟨[],fun w2 _=>by simp[Builtin.firstCells],.nil,an⟩
  ·cases e
 ·rename_i s;rw[bF]at e;split at e
  ·rename_i h1;subst h1;simp only[aY]at e;obtain⟨q,hq,rfl⟩:=e;obtain⟨h1,rfl⟩:=pI _ _ _ hq;cases hx;refine⟨(s.data.toList.take n).map fun b=>.int .u8 b.toNat,fun w2 _=>?_,?_,?_⟩;·simp only[Builtin.firstCells,Sem.run_pure];congr 1;apply m_;simp only[Array.toList_map,ByteArray.data_extract,Array.toList_extract,List.extract_eq_take_drop,eh,nh]
   ·refine eW.xv rfl fun i v hv=>⟨v,hv,?_⟩;simp only[ie,aY]at hv;obtain⟨b,_,rfl⟩:=hv;exact .int _ _
   ·simp at h1 ⊢;omega
  ·cases e
 ·cases e
end
section
variable {P:Program}{E:Env}{ρ:Ren}{h:ak}{w:World}
theorem nextslicecap_le {need cap:Nat}(hc:cap<need) (hn:need≤1000000):Builtin.nextslicecap need cap≤10000000:=by
 unfold Builtin.nextslicecap;split;·omega
 ·split;·omega
  ·simp only[Builtin.growBy];repeat' split
   all_goals omega
theorem Ku (hE:bJ P E) (hr:HR P ρ h w) {ty:TypeId}{ts:Array TypeId}{xs:Array Value}{args:List Value}{v:Value}{h':ak}(e:Ct E ts.toList args h=some (v,h')) (hx:eW ρ args xs.toList) :
   ∃ v' w',(Builtin.copy_ ts ty xs).run P w=.ok v' w'∧VR ρ v v'∧dG P ρ h w ρ h' w':=by
 unfold Ct at e
 split at e
 · rename_i t ts0 base dl dc x xs0 hts;have ht:ts[0]?=some t:=by
     have:ts.toList[0]?=some t:=by rw[hts];rfl
     simpa using this
   split at e
   · rename_i elem hu;have hu:=hE.b_ hu an;split at e
     · rename_i sz m hs hm;obtain⟨d',hd0,rd⟩:=hx.get 0 _ rfl;obtain⟨x',hx0,rx⟩:=hx.get 1 _ rfl;have hd0:xs[0]?=some d':=by simpa using hd0
       have hx0:xs[1]?=some x':=by simpa using hx0
       split at e
       · rename_i l hl;obtain⟨l',hrun0,rl,hlen⟩:=nF hr hl rx (fun a c hh=>by subst hh;simp[lenOf]at hm;omega);have hrun:=hrun0 w rfl;have hlo:=BT (P:=P) hm rx w;split at e
         · rename_i a;cases hall:l.all Ev.aE with
           | false=>simp[hall]at e
           | true =>
             simp only[hall,cond_true,aY,bA]at e;obtain⟨h1,hw,rfl,rfl⟩:=e;rcases yZ rd with ⟨b,d,c',hb,hsp,rfl⟩|⟨h0,_,a',c',rfl⟩;· obtain⟨bl,off,sp⟩:=a;simp only at hsp;subst hsp;obtain⟨w',hst,hstp⟩:=iZ hr hb hw rl hall;refine⟨goInt ((min m dl:Nat):Int),w',?_,.int _ _,hstp⟩;have hmin:Nat.min m dl=min m dl:=rfl;simp only[Builtin.copy_,ht,hd0,hx0,Sem.run_bind,run_underlying hu,Result.andThen_ok,hlo,hE.gW hs,hmin,hrun,hst,Sem.run_pure]
             · subst h0;have hl0:l=[]:=by
                 have:l.length=0:=by rw[hlen];simp
                 exact dq.1 this
               subst hl0;cases rl;have:h1=h:=by
                 unfold du at hw;split at hw;· cases hw
                 · cases hw;rfl
               subst this;refine⟨goInt ((min m 0:Nat):Int),w,?_,.int _ _,dG.refl hr⟩;have hmin:Nat.min m 0=min m 0:=rfl;simp only[Builtin.copy_,ht,hd0,hx0,Sem.run_bind,run_underlying hu,Result.andThen_ok,hlo,hE.gW hs,hmin,hrun,Sem.run_pure,storeCells]
         · cases e;cases rd;refine⟨goInt ((min m dl:Nat):Int),w,?_,.int _ _,dG.refl hr⟩;have hmin:Nat.min m dl=min m dl:=rfl;simp only[Builtin.copy_,ht,hd0,hx0,Sem.run_bind,run_underlying hu,Result.andThen_ok,hlo,hE.gW hs,hmin,hrun,Sem.run_pure]
       · cases e
     · cases e
   · cases e
 · cases e
theorem HO (hE:bJ P E) (hr:HR P ρ h w) {ty:TypeId}{ts:Array TypeId}{xs:Array Value}{args:List Value}{v:Value}{h':ak}(e:uT E ts.toList args h=some (v,h')) (hx:eW ρ args xs.toList) :
   ∃ v' w',(Builtin.clear_ ts ty xs).run P w=.ok v' w'∧VR ρ v v'∧dG P ρ h w ρ h' w':=by
 unfold uT at e
 split at e
 · rename_i t ts0 base n c xs0 hts;have ht:ts[0]?=some t:=by
     have:ts.toList[0]?=some t:=by rw[hts];rfl
     simpa using this
   obtain⟨d',hd0,rd⟩:=hx.get 0 _ rfl;have hd0:xs[0]?=some d':=by simpa using hd0
   split at e
   · rename_i elem hu;have hu:=hE.b_ hu an;split at e;· simp only[aS,bA]at e;obtain⟨rfl,rfl⟩:=e;cases rd;refine⟨.tuple #[],w,?_,.tuple _ _ .nil,dG.refl hr⟩;simp only[Builtin.clear_,ht,hd0,Sem.run_bind,run_underlying hu,Result.andThen_ok,Sem.run_pure]
     · rename_i a z hz;cases hck:(!Nat.beq z.cells.toList.length 0&&(rep n z.cells.toList).all Ev.aE) with
       | false=>rw[hck]at e;cases e
       | true =>
         rw[hck]at e;simp only[aZ,ic]at hck;obtain⟨hz0,hall⟩:=hck;simp only[cond_true,aY,bA]at e;obtain⟨h1,hw,rfl,rfl⟩:=e;have hzs:0<z.cells.size:=by
           have:z.cells.toList.length≠0:=fun e=>by rw[e]at hz0;cases hz0
           simpa using Nat.pos_of_ne_zero this
         have hzr:=hE.kL hz;rcases yZ rd with ⟨b,d,c',hb,hsp,rfl⟩|⟨h0,_,a',c',rfl⟩
         · obtain⟨bl,off,sp⟩:=a;simp only at hsp;subst hsp;cases n with
           | zero =>
             have:h1=h:=by unfold du at hw;simp only[rep]at hw;exact(gY hw).symm
             subst this;refine⟨.tuple #[],w,?_,.tuple _ _ .nil,dG.refl hr⟩;simp only[Builtin.clear_,ht,hd0,Sem.run_bind,run_underlying hu,Result.andThen_ok,Sem.run_pure]
           | succ n =>
             have rr:∀ m,eW ρ (rep m z.cells.toList) (rep m z.cells.toList):=by
               intro m;induction m with
               | zero=>exact .nil
               | succ m ih=>exact((VR.const ρ (hE.zero hz).2).cells).append ih
             obtain⟨w',hst,hstp⟩:=iZ hr hb hw (rr (n+1)) hall;refine⟨.tuple #[],w',?_,.tuple _ _ .nil,hstp⟩;have hzc:(Builtin.zeroCells z.cells (n+1)).toList=rep (n+1) z.cells.toList:=rY z.cells (n+1) hzs;simp only[Builtin.clear_,ht,hd0,Sem.run_bind,run_underlying hu,Result.andThen_ok,hzr,hzc,hst,Sem.run_pure]
         · subst h0;have:h1=h:=by
             unfold du at hw;split at hw;· cases hw
             · simp only[rep]at hw;exact(gY hw).symm
           subst this;refine⟨.tuple #[],w,?_,.tuple _ _ .nil,dG.refl hr⟩;simp only[Builtin.clear_,ht,hd0,Sem.run_bind,run_underlying hu,Result.andThen_ok,Sem.run_pure]
     · cases e
   · cases e
 · cases e
inductive App (P:Program) (w:World) (elem:TypeId) (sz:Nat) (xt:TypeId) (x':Value) (n:Nat) (new:List Value):Prop
 | seq (dx:TypeDesc) (hux:P.underlying xt=some dx) (hsq:AM dx=true) (hlo:(Builtin.lenOf x').run P w=.ok n w)
   (hnew:∀ w2:World,w2.heap=w.heap→(Builtin.firstCells sz n x').run P w2=.ok new.toArray w2)
 | made (k k':IntKind) (l:Int) (info:TypeInfo) (z:Value) (hux:P.underlying xt=some (.int k)) (hx:x'=.int k' l) (h0:0≤l) (hl:l≤1000000) (hn:n=l.toNat)
   (hi:P.info? elem=some info) (hz:info.zero=some z) (hb:info.bytes≤10000) (hzs:z.cells.size=sz) (hz0:sz≠0) (hnew:new=rep n z.cells.toList)
theorem run_append_fits {ty:TypeId}{ts:Array TypeId}{xs:Array Value}{st xt elem:TypeId}{base:Option Addr}{sl sc n sz:Nat}{x':Value}{new:List Value}{w':World}
   (ht:ts[0]?=some st) (hxt:ts[1]?=some xt) (h0:xs[0]?=some (.slice base sl sc)) (h1:xs[1]?=some x') (hu:P.underlying st=some (.slice elem))
   (hs:∀ w:World,(sizeOf elem).run P w=.ok sz w) (happ:App P w elem sz xt x' n new) (hfit:sl+n≤sc)
   (hst:(match base with|some a=>storeCells (a.add (sl*sz)) new|none=>pure ():Sem Unit).run P w=.ok () w') :
   (Builtin.append_ ts ty xs).run P w=.ok (.slice base (sl+n) sc) w':=by
 cases happ with
 | seq dx hux hsq hlo hnew =>
   have hnew:=hnew w rfl
   cases dx<;>simp only[AM,dQ]at hsq
   all_goals
     simp only[Builtin.append_,ht,hxt,h0,h1,Sem.run_bind,run_underlying hu,run_underlying hux,Result.andThen_ok,hs,Sem.run_pure,dQ,if_false,hlo,sE,if_true,hfit,hnew]
     cases base with
     | none=>simp at hst;simp[hst]
     | some a=>simp only at hst;simp[hst]
 | made k k' l info z hux hx hl0 hl hn hi hz hb hzs hz0 hnew =>
   subst hx hn
   have hw:IntKind.wrap .i64 l=l:=by rw[IntKind.wrap_i64];omega
   have hti:∀ w:World,(typeInfo elem).run P w=.ok info w:=fun w=>Go.run_typeInfo w hi
   have hzr:∀ w:World,(zeroValue elem).run P w=.ok z w:=fun w=>by simp[zeroValue,Go.run_typeInfo w hi,hz]
   have hlb:¬l*(info.bytes:Int) > 2 ^ 48:=by have:l*(info.bytes:Int)≤1000000*10000:=u6 hl ah ah ah;omega
   have hzc:Builtin.zeroCells z.cells l.toNat=new.toArray:=by apply m_;rw[hnew,← rY z.cells l.toNat ah];rfl
   simp only[Builtin.append_,ht,hxt,h0,h1,Sem.run_bind,run_underlying hu,run_underlying hux,Result.andThen_ok,hs,Sem.run_pure,sg,dQ,if_false,if_true,asInt,asIntOf,hw,
     Sem.run_ite,hti,hlb,show ¬l<0 by omega,hfit,hzr,hzc]
   by_cases hn0:l.toNat*sz=0
   · have:new=[]:=by
       have:l.toNat=0:=by rcases Nat.mul_eq_zero.1 hn0 with h|h<;>omega
       rw[hnew,this];rfl
     subst this;simp only[hn0,if_true,Sem.run_pure,Result.andThen_ok];cases base with
     | none=>simp at hst;simp[hst]
     | some a=>simp only at hst;simp[hst]
   · simp only[hn0,if_false,Sem.run_pure,Result.andThen_ok];cases base with
     | none=>simp at hst;simp[hst]
     | some a=>simp only at hst;simp[hst]
theorem pL {ty:TypeId}{ts:Array TypeId}{xs:Array Value}{st xt elem:TypeId}{base:Option Addr}{sl sc n sz:Nat}{x':Value}{old new:List Value}{info:TypeInfo}{z:Value}
   (ht:ts[0]?=some st) (hxt:ts[1]?=some xt) (h0:xs[0]?=some (.slice base sl sc)) (h1:xs[1]?=some x') (hu:P.underlying st=some (.slice elem))
   (hi:P.info? elem=some info) (hsz:info.size=sz) (hz:info.zero=some z) (hzs:z.cells.size=sz) (hby:info.bytes≤10000) (hneed:sl+n≤1000000)
   (hfit:¬sl+n≤sc)
   (hold:∀ w2:World,w2.heap=w.heap→(Builtin.firstCells sz sl (.slice base sl sc)).run P w2=.ok old.toArray w2) (happ:App P w elem sz xt x' n new) (hn0:n*sz≠0)
   (hol:old.length=sl*sz) (hnl:new.length=n*sz) :
   ∃ (cap:Nat) (d:Nat) (cells:Array Value),sl+n≤cap∧cells.size=cap*sz∧(∀ (i:Nat) (v:Value),(old++new)[i]?=some v→cells[i]?=some v) ∧
     (Builtin.append_ ts ty xs).run P w=.ok (.slice (some ⟨w.heap.size,0,none⟩) (sl+n) cap) { w with drawn:=d,heap:=w.heap.push (.cells cells elem (0,0)) }:=by
 have hcap:=nextslicecap_le (need:=sl+n) (cap:=sc) ah hneed
 have hlim:¬Builtin.nextslicecap (sl+n) sc*info.bytes > 2 ^ 48:=by have:Builtin.nextslicecap (sl+n) sc*info.bytes≤10000000*10000:=Nat.mul_le_mul hcap hby;omega
 have hsr:∀ w:World,(sizeOf elem).run P w=.ok sz w:=fun w=>by simp[sizeOf,Go.run_typeInfo w hi,hsz]
 have hzr:∀ w:World,(zeroValue elem).run P w=.ok z w:=fun w=>by simp[zeroValue,Go.run_typeInfo w hi,hz]
 have hforced:(Question.appendCap (sl+n) sc elem).forced=false:=rfl
 let cap:=(Question.appendCap (sl+n) sc elem).cut (w.tape w.drawn (Question.appendCap (sl+n) sc elem))
 have hge:sl+n≤cap:=by simp only[cap,Question.cut];omega
 refine⟨cap,w.drawn+1,old.toArray++new.toArray++Builtin.zeroCells z.cells (cap-(sl+n)),hge,?_,?_,?_⟩
 · simp only[Array.size_append,List.size_toArray,hol,hnl,size_zeroCells,hzs,← iN];congr 1;omega
 · intro i v hv;have:=(cQ.1 hv).1;rw[Array.getElem?_append_left (by simpa using this)];rw[← AX]at hv;simpa using hv
 · have hneg:¬(((sl+n:Nat):Int) > IntKind.i64.max∧(False∨info.bytes=0)):=by intro hh;have:=hh.1;rw[IntKind.max_i64]at this;omega
   have hti:∀ w:World,(typeInfo elem).run P w=.ok info w:=fun w=>Go.run_typeInfo w hi;have ho:=hold { w with drawn:=w.drawn+1 } rfl;have hrun:(choose (.appendCap (sl+n) sc elem)).run P w=.ok cap { w with drawn:=w.drawn+1 }:=by rw[run_choose,hforced];rfl
   cases happ with
   | seq dx hux hsq hlo hnew =>
     have hn:=hnew { w with drawn:=w.drawn+1 } rfl
     cases dx<;>simp only[AM,dQ]at hsq
     all_goals
       simp only[Builtin.append_,ht,hxt,h0,h1,Sem.run_bind,run_underlying hu,run_underlying hux,Result.andThen_ok,hsr,Sem.run_pure,dQ,if_false,hlo,sE,if_true,hfit,hti,
         Sem.run_ite,hneg,hlim,hrun,run_askRoom,ho,hn,hzr,newRow,run_newObj]
   | made k k' l info' z' hux hx hl0 hl hn hi' hz' hb hzs' hz0 hnew =>
     cases hi.symm.trans hi'
     cases hz.symm.trans hz'
     subst hx hn
     have hw:IntKind.wrap .i64 l=l:=by rw[IntKind.wrap_i64];omega
     have hlb:¬l*(info.bytes:Int) > 2 ^ 48:=by have:l*(info.bytes:Int)≤1000000*10000:=u6 hl ah ah ah;omega
     have hzc:Builtin.zeroCells z.cells l.toNat=new.toArray:=by apply m_;rw[hnew,← rY z.cells l.toNat ah];rfl
     have hneg':¬(((sl+l.toNat:Nat):Int) > IntKind.i64.max):=by rw[IntKind.max_i64];omega
     simp only[Builtin.append_,ht,hxt,h0,h1,Sem.run_bind,run_underlying hu,run_underlying hux,Result.andThen_ok,hsr,Sem.run_pure,sg,dQ,if_false,if_true,asInt,asIntOf,hw,
       Sem.run_ite,hti,hlb,show ¬l<0 by omega,hfit,hneg',false_and,hlim,hrun,run_askRoom,ho,hn0,hzr,hzc,newRow,run_newObj]
end
section
variable {P:Program}{E:Env}{ρ:Ren}{h:ak}{w:World}
theorem Bc {α:Type}(l:List α):∀ n,(rep n l).length=n*l.length
 | 0=>by simp[rep]
 | n+1=>by rw[rep,dA,Bc l n,Nat.succ_mul,vV]
theorem NU {cs:List Value}{xs:Array Value}(hc:∀ (i:Nat) (v:Value),cs[i]?=some v→∃ v',xs[i]?=some v'∧VR ρ v v'):cs.length≤xs.size:=by
 by_cases hz:cs.length=0;·omega
 ·obtain⟨v',e',_⟩:=hc (cs.length-1) _ (bw ah);have:=(fq.1 e').1;omega
theorem uf (hE:bJ P E) (hr:HR P ρ h w) {ty:TypeId}{ts:Array TypeId}{xs:Array Value}{st xt elem:TypeId}{sz:Nat}{info:TypeInfo}{z:Value}{base:Option Addr}{sl sc n:Nat}{x' s':Value}{new new':List Value}{v:Value}{h':ak}
   (e:bW h elem sz base sl sc n new=some (v,h'))
   (ht:ts[0]?=some st) (hxt:ts[1]?=some xt) (h0:xs[0]?=some s') (h1:xs[1]?=some x') (hu:P.underlying st=some (.slice elem))
   (i1:P.info? elem=some info) (i3:info.size=sz) (hzz:info.zero=some z) (g1:¬sz=0) (g2':z.cells.size=sz) (g3:info.bytes≤10000) (g4:sl+n≤1000000) (hn:¬n=0)
   (rs:VR ρ (.slice base sl sc) s') (happ:App P w elem sz xt x' n new') (rnew:eW ρ new new') (hnl:new.length=n*sz) (hall:new.all Ev.aE=true) :
   ∃ v' ρ' w',(Builtin.append_ ts ty xs).run P w=.ok v' w'∧VR ρ' v v'∧dG P ρ h w ρ' h' w':=by
 have hs:∀ w:World,(sizeOf elem).run P w=.ok sz w:=fun w=>by simp[sizeOf,Go.run_typeInfo w i1,i3]
 have hcell:P.cellsOf elem=sz:=by simp[Program.cellsOf,i1,i3]
 have hn0:n*sz≠0:=Nat.mul_ne_zero hn g1
 unfold bW at e
 rw[bF]at e
 by_cases hc2:sc=fb
 · rw[if_pos hc2]at e;cases e
 rw[if_neg hc2,bF]at e
 by_cases hc1:sc=bh
 ·
   rw[if_pos hc1]at e
   subst hc1
   split at e
   case h_2=>cases e
   rename_i bi
   split at e
   case h_2=>cases e
   rename_i cs el hk
   rw[bF]at e
   by_cases hel:el=elem
   case neg=>rw[if_neg hel]at e;cases e
   rw[if_pos hel]at e
   subst hel
   cases rs with
   | slice _ _ _ _ aT=>exact absurd aT (dy _)
   | @g_ _ b c _ _ cap hi' hlu hl hcap =>
     have hcap:=hcap rfl
     subst hcap
     obtain⟨k,o,e1,e2,e3⟩:=hr.rj bi b cap hi'
     rw[hk]at e1;cases e1
     cases e3 with
     | cells _ ys _ _ hcc hss =>
       simp only[dQ,if_false]at hss
       rw[hcell]at hss
       have hge:=NU hcc
       rw[ble_eq]at e
       by_cases hfit:(sl+n)*sz≤cs.length
       ·
         simp only[hfit,decide_true,cond_true,aY,bA]at e
         obtain⟨h2,hw,rfl,rfl⟩:=e
         obtain⟨w',hst,hstp⟩:=iZ hr hi' hw rnew hall
         have hle:sl+n≤cap:=by have:(sl+n)*sz≤cap*sz:=ah;exact Nat.le_of_mul_le_mul_right this ah
         have:=run_append_fits (ty:=ty) (w':=w') ht hxt h0 h1 hu hs happ hle (by simp only[Addr.add_lit,cb];exact hst)
         exact⟨_,ρ,w',this,.g_ 0 _ _ hi' (mC g4 ao) hle (fun _=>rfl),hstp⟩
       · simp only[hfit,decide_false,cond_false,bF]at e;by_cases hend:sl*sz=cs.length;case neg=>rw[if_neg hend]at e;cases e
         rw[if_pos hend]at e;cases e;by_cases hroom:sl+n≤cap;·
           have hlen2:new'.length=n*sz:=by rw[← rnew.length,hnl]
           have hfit2:sl*sz+new'.length≤ys.size:=by rw[hlen2,← iN,hss];exact AJ _ hroom
           have hrun:=run_storeCells_at (P:=P) b (sl*sz) el new' 0 ys w e2 ah (rnew.aE hall)
           simp only[cj]at hrun
           have:=run_append_fits (ty:=ty) ht hxt h0 h1 hu hs happ hroom (by simp only[Addr.add_lit,cb];exact hrun)
           refine⟨_,ρ.Er h.n (b,cap),_,this,.g_ 0 _ _ (Ren.dD _ _ _) (mC g4 ao) hroom (fun _=>rfl),?_⟩
           refine dG.grown hr hi' hk (by simp[soft]) (o':=.cells (ys.toList.take (sl*sz)++new'++ys.toList.drop (sl*sz+new'.length)).toArray el (0,0)) ?_ ?_ (setRow_heap w b ys _ el (0,0) e2) (fun j hj=>setRow_other w b j _ hj) rfl rfl rfl
           · refine .cells _ _ _ _ (fun j v hv=>?_) ?_
             · have hog:=zK (cs:=ys.toList) (xs:=new') (off:=sl*sz) rfl (by simpa using hfit2) j;simp only[AX];rw[hog];rw[pE]at hv;by_cases a1:j<cs.length;· rw[if_pos a1]at hv;rw[if_pos ah];obtain⟨v',e',r⟩:=hcc j v hv;exact⟨v',by simpa using e',r⟩
               · rw[if_neg a1]at hv;rw[if_neg ah];have hj:=(cQ.1 hv).1;rw[if_pos (by rw[← rnew.length];omega),hend];exact rnew.get _ _ hv
             · simp only[dQ,if_false];rw[hcell,← hss];simp;omega
           · simp[World.setRow]
         ·
           have hkill:=dG.kill hr hi' (by rw[hk];simp[soft])
           have hold:∀ w2:World,w2.heap=w.heap→(Builtin.firstCells sz sl (.slice (some ⟨b,0,none⟩) sl cap)).run P w2=.ok (ys.toList.take cs.length).toArray w2:=by
             intro w2 hw2;have hcl:∀ (j:Nat) (v':Value),(ys.toList.take cs.length)[j]?=some v'→w2.cell? ((⟨b,0,none⟩:Addr).add j)=some v':=by
               intro j v' hv;have hj:=(cQ.1 hv).1;have hj:j<cs.length:=by simp at hj;omega
               rw[jx hj]at hv;rw[Addr.add_lit,cell_of (by rw[hw2];exact e2)];simpa using hv
             have:=run_loadCells_list (P:=P) w2 _ _ hcl;have hlen3:(ys.toList.take cs.length).length=sl*sz:=by simp;omega
             rw[hlen3]at this;simpa[Builtin.firstCells]using this
           obtain⟨cap',d,cells,k1,k2,k3,k4⟩:=pL (ty:=ty) ht hxt h0 h1 hu i1 i3 hzz g2' g3 g4 hroom hold happ hn0 (by simp;omega) (by rw[← rnew.length,hnl])
           have hbr:BR P ρ cap' (.cells (cs++new) el false) (.cells cells el (0,0)):=by
             refine .cells _ _ _ _ (fun j v hv=>?_) (by simp only[dQ,if_false];rw[hcell,k2]);have hold3:eW ρ cs (ys.toList.take cs.length):=eW.xv (by simp;omega) fun j v hv=>by obtain⟨v',e',r⟩:=hcc j v hv;have hj:=(cQ.1 hv).1;exact⟨v',by rw[jx hj];simpa using e',r⟩
             obtain⟨v',e',r⟩:=(hold3.append rnew).get j v hv;exact⟨v',k3 j v' e',r⟩
           refine⟨_,ρ.Er h.n (w.heap.size,cap'),_,k4,.g_ 0 _ _ (Ren.dD _ _ _) (mC g4 ao) k1 (fun _=>rfl),hkill.trans ?_⟩
           exact dG.alloc hkill.hr hbr rfl rfl rfl rfl
 ·
   rw[if_neg hc1,ble_eq]at e
   by_cases hfit:sl+n≤sc
   · simp only[hfit,decide_true,cond_true]at e;split at e;case h_2=>cases e
     rename_i bi off;simp only[aY,bA]at e;obtain⟨h2,hw,rfl,rfl⟩:=e;cases rs with
     | g_ _ _ _ _ _ _ _=>exact(hc1 rfl).elim
     | iQ _ _ _=>exact(hc2 rfl).elim
     | @slice _ b c _ _ _ hi' aT =>
       obtain⟨w',hst,hstp⟩:=iZ hr hi' hw rnew hall
       have:=run_append_fits (ty:=ty) (w':=w') ht hxt h0 h1 hu hs happ hfit (by simp only[Addr.add_lit];exact hst)
       exact⟨_,ρ,w',this,.slice _ _ _ hi' aT,hstp⟩
   · simp only[hfit,decide_false,cond_false]at e;split at e;case h_2=>cases e
     rename_i old hold;cases e;have aT:∀ sc':Nat,(∃ b,s'=.slice b sl sc')→sc'=sc:=by intro sc' hh;obtain⟨b,rfl⟩:=hh;cases rs<;>first|rfl|exact(hc1 rfl).elim|exact(hc2 rfl).elim
     have hform:∃ b,s'=.slice b sl sc:=by cases rs<;>first|exact⟨_,rfl⟩|exact(hc1 rfl).elim|exact(hc2 rfl).elim
     obtain⟨b,rfl⟩:=hform;have hol:∀ a c,Value.slice base sl sc=.slice a 0 c→sl=0:=fun a c hh=>by injection hh
     obtain⟨old',hold2,rold,hoL⟩:=nF hr hold rs hol;obtain⟨cap',d,cells,k1,k2,k3,k4⟩:=pL (ty:=ty) ht hxt h0 h1 hu i1 i3 hzz g2' g3 g4 hfit hold2 happ hn0 (by rw[← rold.length,hoL]) (by rw[← rnew.length,hnl]);have hbr:BR P ρ cap' (.cells (old++new) elem false) (.cells cells elem (0,0)):=by refine .cells _ _ _ _ (fun j v hv=>?_) (by simp only[dQ,if_false];rw[hcell,k2]);obtain⟨v',e',r⟩:=(rold.append rnew).get j v hv;exact⟨v',k3 j v' e',r⟩
     exact⟨_,ρ.Er h.n (w.heap.size,cap'),_,k4,.g_ 0 _ _ (Ren.dD _ _ _) (mC g4 ao) k1 (fun _=>rfl),dG.alloc hr hbr rfl rfl rfl rfl⟩
theorem EZ (hE:bJ P E) (hr:HR P ρ h w) {ty:TypeId}{ts:Array TypeId}{xs:Array Value}{args:List Value}{v:Value}{h':ak}(e:yL E ts.toList args h=some (v,h')) (hx:eW ρ args xs.toList) :
  ∃ v' ρ' w',(Builtin.append_ ts ty xs).run P w=.ok v' w'∧VR ρ' v v'∧dG P ρ h w ρ' h' w':=by
 unfold yL at e
 split at e
 case h_2=>cases e
 rename_i st xt ts0 base sl sc x xs0 hts
 have ht:ts[0]?=some st:=by
  have:ts.toList[0]?=some st:=by rw[hts];rfl
  simpa using this
 have hxt:ts[1]?=some xt:=by
  have:ts.toList[1]?=some xt:=by rw[hts];rfl
  simpa using this
 split at e
 case h_3=>cases e
 case h_2 =>
  rename_i elem hu hux;have hu:=hE.b_ hu an;unfold EE at e;split at e;case h_2=>cases e
  rename_i k k' l i hux2 hi;have hux2:=hE.b_ hux2 an;split at e;case h_2=>cases e
  rename_i z hz;obtain⟨info,i1,i2,i3,i4,i5,i6,i7⟩:=hE.qh elem i hi;have hzz:=i6 z hz;obtain⟨s',h0,rs⟩:=hx.get 0 _ rfl;obtain⟨x',h1,rx⟩:=hx.get 1 _ rfl;have h0:xs[0]?=some s':=by simpa using h0
  have h1:xs[1]?=some x':=by simpa using h1
  cases rx;by_cases hg:0≤l∧l≤1000000∧¬i.size=0∧z.cells.toList.length=i.size∧i.bytes≤10000∧sl+l.toNat≤1000000∧(sl≤sc∨¬l.toNat=0);case neg =>
   exfalso;have:(decide (0≤l)&&decide (l≤1000000)&&!Nat.beq i.size 0&&Nat.beq z.cells.toList.length i.size&&Nat.ble i.bytes 10000&&Nat.ble (sl+l.toNat) 1000000&&(Nat.ble sl sc || !Nat.beq l.toNat 0))=false:=by rw[mZ];intro hh;simp only[e_,ble_eq,aZ,jO,ic,decide_eq_true_eq,decide_eq_false_iff_not]at hh;exact hg ⟨hh.1.1.1.1.1.1,hh.1.1.1.1.1.2,hh.1.1.1.1.2,hh.1.1.1.2,hh.1.1.2,hh.1.2,hh.2⟩
   rw[this]at e;cases e
  obtain⟨l0,l1,g1,g2,g3,g4,g5⟩:=hg;have g2':z.cells.size=i.size:=by simpa using g2
  have hgt:(decide (0≤l)&&decide (l≤1000000)&&!Nat.beq i.size 0&&Nat.beq z.cells.toList.length i.size&&Nat.ble i.bytes 10000&&Nat.ble (sl+l.toNat) 1000000&&(Nat.ble sl sc || !Nat.beq l.toNat 0))=true:=by simp only[e_,ble_eq,aZ,jO,ic,decide_eq_true_eq,decide_eq_false_iff_not];exact⟨⟨⟨⟨⟨⟨l0,l1⟩,g1⟩,g2⟩,g3⟩,g4⟩,g5⟩
  rw[hgt,cond_true,bF]at e;have hs:∀ w:World,(sizeOf elem).run P w=.ok i.size w:=fun w=>by simp[sizeOf,Go.run_typeInfo w i1,i3]
  have happ:App P w elem i.size xt (.int k' l) l.toNat (rep l.toNat z.cells.toList) :=
   .made k k' l info z hux2 rfl l0 l1 rfl i1 hzz.1 (by rw[i4];exact g3) g2' g1 rfl
  by_cases hn:l.toNat=0
  ·rw[if_pos hn]at e;cases e;have g5:sl≤sc:=g5.resolve_right (by simp[hn]);rw[hn]at happ;have fin:∀ (b:Option Addr) (cap:Nat),s'=.slice b sl cap→sl≤cap→∃ v' ρ' w',(Builtin.append_ ts ty xs).run P w=.ok v' w'∧VR ρ' (.slice base sl sc) v'∧dG P ρ h w ρ' h w':=by intro b cap hs' hle;subst hs';have:=run_append_fits (ty:=ty) (w':=w) ht hxt h0 h1 hu hs happ (by omega) (by cases b<;>simp[storeCells,rep]);exact⟨_,ρ,w,this,rs,dG.refl hr⟩
   cases rs with
   | jq _ _ _=>exact fin _ _ rfl g5
   | slice _ _ _ _ _=>exact fin _ _ rfl g5
   | g_ _ _ _ _ _ hl _=>exact fin _ _ rfl hl
   | iQ _ _ _=>exact fin _ _ rfl (eX _)
  rw[if_neg hn]at e;cases hall:(rep l.toNat z.cells.toList).all Ev.aE with
  | false=>simp[hall]at e
  | true =>
  simp only[hall,cond_true]at e;have rnew:eW ρ (rep l.toNat z.cells.toList) (rep l.toNat z.cells.toList):=by
   have:∀ n,eW ρ (rep n z.cells.toList) (rep n z.cells.toList):=by
    intro n;induction n with
    | zero=>exact .nil
    | succ n ih=>exact((VR.const ρ hzz.2).cells).append ih
   exact this _
  exact uf hE hr e ht hxt h0 h1 hu i1 i3 hzz.1 g1 g2' (by rw[i4];exact g3) g4 hn rs happ rnew (by rw[Bc,g2]) hall
 rename_i elem hu hux
 have hu:=hE.b_ hu an
 simp only[aY]at hux
 obtain⟨dx,hux,hsq⟩:=hux
 have hux:=hE.b_ hux (by intro hh;subst hh;simp[AM]at hsq)
 split at e
 case h_2=>cases e
 rename_i i n hi hm
 split at e
 case h_2=>cases e
 rename_i z hz
 obtain⟨info,i1,i2,i3,i4,i5,i6,i7⟩:=hE.qh elem i hi
 have hzz:=i6 z hz
 obtain⟨s',h0,rs⟩:=hx.get 0 _ rfl
 obtain⟨x',h1,rx⟩:=hx.get 1 _ rfl
 have h0:xs[0]?=some s':=by simpa using h0
 have h1:xs[1]?=some x':=by simpa using h1
 have hlo:=BT (P:=P) hm rx w
 have hs:∀ w:World,(sizeOf elem).run P w=.ok i.size w:=fun w=>by simp[sizeOf,Go.run_typeInfo w i1,i3]
 have hcell:P.cellsOf elem=i.size:=by simp[Program.cellsOf,i1,i3]
 by_cases hg:¬i.size=0∧z.cells.toList.length=i.size∧i.bytes≤10000∧sl+n≤1000000∧(sl≤sc∨¬n=0)
 case neg =>
  exfalso;have:(!Nat.beq i.size 0&&Nat.beq z.cells.toList.length i.size&&Nat.ble i.bytes 10000&&Nat.ble (sl+n) 1000000&&(Nat.ble sl sc || !Nat.beq n 0))=false:=by rw[mZ];intro hh;simp only[e_,ble_eq,aZ,jO,ic,decide_eq_true_eq,decide_eq_false_iff_not]at hh;exact hg ⟨hh.1.1.1.1,hh.1.1.1.2,hh.1.1.2,hh.1.2,hh.2⟩
  rw[this]at e;cases e
 obtain⟨g1,g2,g3,g4,g5⟩:=hg
 have g2':z.cells.size=i.size:=by simpa using g2
 have hgt:(!Nat.beq i.size 0&&Nat.beq z.cells.toList.length i.size&&Nat.ble i.bytes 10000&&Nat.ble (sl+n) 1000000&&(Nat.ble sl sc || !Nat.beq n 0))=true:=by simp only[e_,ble_eq,aZ,jO,ic,decide_eq_true_eq,decide_eq_false_iff_not];exact⟨⟨⟨⟨g1,g2⟩,g3⟩,g4⟩,g5⟩
 rw[hgt,cond_true,bF]at e
 by_cases hn:n=0
 ·
  rw[if_pos hn]at e;cases e;subst hn;have g5:sl≤sc:=g5.resolve_right an;have hnew:∀ w:World,(Builtin.firstCells i.size 0 x').run P w=.ok [].toArray w:=by
   intro w;unfold lenOf at hm;split at hm;·cases hm;cases rx<;>simp[Builtin.firstCells,loadCells,loadCellsFrom]
   ·cases rx;simp[Builtin.firstCells]
   ·cases hm
  have fin:∀ (b:Option Addr) (cap:Nat),s'=.slice b sl cap→sl≤cap→∃ v' ρ' w',(Builtin.append_ ts ty xs).run P w=.ok v' w'∧VR ρ' (.slice base sl sc) v'∧dG P ρ h w ρ' h w':=by intro b cap hs' hle;subst hs';have:=run_append_fits (ty:=ty) (w':=w) (new:=[]) ht hxt h0 h1 hu hs (.seq _ hux hsq hlo fun w2 hw2=>hnew w2) (by omega) (by cases b<;>simp[storeCells]);exact⟨_,ρ,w,this,rs,dG.refl hr⟩
  cases rs with
  | jq _ _ _=>exact fin _ _ rfl g5
  | slice _ _ _ _ _=>exact fin _ _ rfl g5
  | g_ _ _ _ _ _ hl _=>exact fin _ _ rfl hl
  | iQ _ _ _=>exact fin _ _ rfl (eX _)
 rw[if_neg hn]at e
 split at e
 case h_2=>cases e
 rename_i new hnewA
 have hnx:∀ a c,x=.slice a 0 c→n=0:=fun a c hh=>by subst hh;simp[lenOf]at hm;omega
 obtain⟨new',hnew2,rnew,hnl⟩:=nF hr hnewA rx hnx
 have hnew:=hnew2 w rfl
 cases hall:new.all Ev.aE with
 | false=>simp[hall]at e
 | true =>
 simp only[hall,cond_true]at e
 exact uf hE hr e ht hxt h0 h1 hu i1 i3 hzz.1 g1 g2' (by rw[i4];exact g3) g4 hn rs (.seq _ hux hsq hlo hnew2) rnew hnl hall
theorem Gb (hE:bJ P E) (hr:HR P ρ h w) {src dst:TypeId}{x x' v:Value}{h':ak}(e:Dq E src dst x h=some (v,h')) (hx:VR ρ x x') :
   ∃ v' ρ' w',(convert src dst x').run P w=.ok v' w'∧VR ρ' v v'∧dG P ρ h w ρ' h' w':=by
 unfold Dq at e
 split at e
 · rename_i el s hu1 hu2;split at e
   · rename_i hu3;cases hc:(!Nat.beq s.size 0&&Nat.ble s.size 1000000) with
     | false=>rw[hc]at e;cases e
     | true =>
       rw[hc]at e;simp only[cond_true,aS,bA]at e;obtain⟨rfl,rfl⟩:=e;simp only[aZ,ic,ble_eq,decide_eq_true_eq]at hc;have hs0:s.size≠0:=fun h0=>by rw[h0]at hc;exact absurd hc.1 ao
       cases hx with
       | string =>
         have hrun:=Lib.run_convert_string_bytes (P:=P) w src dst el s (hE.b_ hu1 an) (hE.b_ hu2 an) (hE.b_ hu3 an)
         have hcap:s.size≤grownCap w s.size 0 el:=grownCap_ge w s.size 0 el
         have hpush:(Lib.bytesWorld w el s).heap=w.heap.push (.cells (Lib.bytesCells w el s) el ((Lib.bytesCells w el s).size,(Lib.bytesCells w el s).size+1)):=by
           apply Array.ext_getElem?;intro j;rw[mV];by_cases hj:j=w.heap.size;· rw[if_pos hj,hj,Lib.bytesWorld_at_new]
           · rw[if_neg hj];by_cases aT:j<w.heap.size;· exact Lib.bytesWorld_at_old w el s j aT
             · rw[Array.getElem?_eq_none (by rw[Lib.bytesWorld_size];omega),Array.getElem?_eq_none ah]
         have hbr:BR P ρ (grownCap w s.size 0 el) (.ro fun j=>nth (DT s) j) (.cells (Lib.bytesCells w el s) el ((Lib.bytesCells w el s).size,(Lib.bytesCells w el s).size+1)):=by
           refine .ro _ _ fun i v hv=>⟨_,_,_,v,rfl,?_,?_⟩
           · rw[dL,DT,ie]at hv;obtain⟨b,hb,rfl⟩:=aY.1 hv;have hi:i<s.data.size:=by have:=(cQ.1 hb).1;simpa using this
             unfold Lib.bytesCells;rw[Array.getElem?_append_left (by simpa using hi),Array.getElem?_map,← lj,hb];rfl
           · rw[dL,DT,ie]at hv;obtain⟨b,hb,rfl⟩:=aY.1 hv;exact .int _ _
         refine⟨_,ρ.Er h.n (w.heap.size,grownCap w s.size 0 el),_,hrun,.g_ 0 _ _ (Ren.dD _ _ _) (mC hc.2 ao) hcap (fun _=>rfl),?_⟩
         exact dG.alloc hr hbr hpush rfl rfl rfl
   · cases e
 · rename_i e0 el i n c hu1 hu2;split at e
   · rename_i cs e1 hu3 hb;cases hc:(Nat.beq src dst&&Nat.blt i h.n&&Nat.blt c bh) with
     | false=>rw[hc]at e;cases e
     | true =>
       rw[hc]at e;simp only[cond_true,aS,bA]at e;obtain⟨rfl,rfl⟩:=e;simp only[aZ,mM,mP]at hc;obtain⟨⟨rfl,hi⟩,hcu⟩:=hc;have hne1:c≠bh:=ah;have hne2:c≠fb:=by unfold fb;unfold bh at hcu;omega
       cases hx with
       | g_ _ _ _ _ _ _ _=>exact absurd rfl hne1
       | iQ _ _ _=>exact absurd rfl hne2
       | @slice _ b c' _ _ _ hρ _ =>
         obtain⟨k,o,k1,k2,k3⟩:=hr.rj _ _ _ hρ
         rw[hb]at k1
         cases k1
         cases k3 with
         | cells _ ys _ _ hcell hsz =>
           have ht:=hE.b_ hu2 an
           have he:=hE.b_ hu3 an
           have hsh:w.shape? b=some (e1,ys.size):=by simp[World.shape?,k2]
           refine⟨.slice (some ⟨b,0,none⟩) n c,ρ,w.freeze ⟨b,ys.size,none⟩ 1,by simp[convert,run_underlying ht,run_underlying he,markStringish,hsh],.slice _ _ _ hρ hcu,?_⟩
           refine dG.write (k':=.ro fun j=>nth cs j) (o':=.cells ys e1 (ys.size,ys.size+1)) hr hρ hb ?_ (.ro _ _ fun j v hv=>?_) ?_ ?_ ?_ ?_ ?_ ?_
           · simp[soft]
           · simp only[dL]at hv;obtain⟨v',e2,r⟩:=hcell j v hv;exact⟨ys,e1,_,v',rfl,e2,r⟩
           · unfold World.freeze;rw[if_neg ao];simp
           · unfold World.freeze;rw[if_neg ao];simp[vw,k2]
           · intro j hj;unfold World.freeze;rw[if_neg ao];simp[vw,bV hj]
           · unfold World.freeze;rw[if_neg ao]
           · unfold World.freeze;rw[if_neg ao]
           · unfold World.freeze;rw[if_neg ao]
   · cases e
 · cases e
theorem za {ρ:Ren}:∀ {l:List Value}{bs:List UInt8},aW zW l=some bs→bs.length=l.length∧∀ (j:Nat) (x:UInt8),bs[j]?=some x→l[j]?=some (Value.int .u8 (x.toNat:Int))
 | [],bs,h=>by simp only[aW,aS]at h;subst h;simp
 | v::l,bs,h=>by
   simp only[aW]at h;cases hv:zW v with
   | none=>rw[hv]at h;cases h
   | some b =>
     cases hm:aW zW l with
     | none=>rw[hv,hm]at h;cases h
     | some q =>
       rw[hv,hm]at h
       simp only[aS]at h
       subst h
       obtain⟨h1,h2⟩:=za (ρ:=ρ) hm
       refine⟨by simp[h1],fun j x hj=>?_⟩
       cases j with
       | zero =>
         simp only[cR,aS]at hj ⊢
         subst hj
         unfold zW at hv
         split at hv
         · rename_i n;cases hc:(decide (0≤n)&&decide (n<256)) with
           | false=>rw[hc]at hv;cases hv
           | true =>rw[hc]at hv;simp only[cond_true,aS]at hv;simp only[aZ,decide_eq_true_eq]at hc;subst hv;congr 1;simp only[UInt8.toNat_ofNat'];omega
         · cases hv
       | succ j =>
         simp only[cu]at hj ⊢
         exact h2 j x hj
theorem wB (hE:bJ P E) (hr:HR P ρ h w) {ty:TypeId}{ts:Array TypeId}{xs:Array Value}{args:List Value}{v:Value}{h':ak}(e:oJ E ts.toList args h=some (v,h')) (hx:eW ρ args xs.toList) :
   ∃ v' w',(Builtin.unsafeString_ ts ty xs).run P w=.ok v' w'∧VR ρ v v'∧dG P ρ h w ρ h' w':=by
 obtain⟨xs⟩:=xs
 obtain⟨ts⟩:=ts
 simp only at e hx
 unfold oJ at e
 split at e
 · rename_i pt it n;cases hc:decide (n=0) with
   | false=>rw[hc]at e;cases e
   | true =>
     rw[hc]at e;simp only[cond_true,aS,bA]at e;obtain⟨rfl,rfl⟩:=e;have hn:=of_decide_eq_true hc;subst hn;cases hx with
     | cons r1 t=>cases r1;cases t with
       | cons r2 t=>cases r2;cases t;exact⟨_,w,Lib.run_unsafeString_none w pt it ty none,.string _,dG.refl hr⟩
 · rename_i pt it i n;split at e
   · rename_i el cs e' ex hu hb;split at e
     · rename_i hs;cases hc:(Nat.beq el e'&&decide (0<n)&&decide (n≤9223372036854775807)&&Nat.blt i h.n) with
       | false=>rw[hc]at e;cases e
       | true =>
         rw[hc]at e;simp only[cond_true]at e;simp only[aZ,decide_eq_true_eq,mM,mP]at hc;obtain⟨⟨⟨rfl,h0⟩,h63⟩,hi⟩:=hc;split at e
         · rename_i l hl;split at e
           · rename_i bs hbs;simp only[aS,bA]at e;obtain⟨rfl,rfl⟩:=e;obtain⟨hle,rfl⟩:=pI _ _ _ hl;obtain⟨hlen,hget⟩:=za (ρ:=ρ) hbs;cases hx with
             | cons r1 t=>cases r1 with
               | @ptr _ b c _ hρ=>cases t with
                 | cons r2 t=>cases r2;cases t with
                   | nil =>
                     obtain⟨k,o,k1,k2,k3⟩:=hr.rj _ _ _ hρ;rw[hb]at k1;cases k1;cases k3 with
                     | cells _ ys _ _ hcell hsz =>
                       have hblen:bs.length=n.toNat:=by rw[hlen,fp];omega
                       have hn:n=(bs.length:Int):=ah
                       have hcell2:∀ (j:Nat) (x:UInt8),bs[j]?=some x→ys[j]?=some (Value.int .u8 (x.toNat:Int)):=fun j x hj=>by have h1:=hget j x hj;have hj2:=(cQ.1 hj).1;rw[List.getElem?_take,if_pos ah]at h1;obtain⟨v',e1,r⟩:=hcell j _ h1;cases r;exact e1
                       have hys:bs.length≤ys.size:=by have hb0:bs.length-1<bs.length:=ah;have:=hcell2 (bs.length-1) _ (bw hb0);have:=(fq.1 this).1;omega
                       rw[hn]
                       refine⟨_,w.freeze ⟨b,0,none⟩ bs.length,Lib.run_unsafeString_row w pt it ty el (hE.b_ hu an) (hE.cellsOf hs) b ys.size (by simp[World.shape?,k2]) bs (by intro hh;rw[hh]at hn;simp at hn;omega) hys ah (fun j x hj=>by
                         have:(⟨b,0,none⟩:Addr).add j=⟨b,j,none⟩:=by unfold Addr.add;by_cases hj0:j=0<;>simp[hj0]
                         rw[this];simp only[World.cell?,k2];simpa using hcell2 j x hj),.string _,?_⟩
                       have hb1:bs.length≠0:=ah
                       refine dG.write (k':=.dead) (o':=.cells ys el (0,0+bs.length)) hr hρ hb ?_ (.dead _) ?_ ?_ ?_ ?_ ?_ ?_
                       · simp[soft]
                       · unfold World.freeze;rw[if_neg hb1];simp
                       · unfold World.freeze;rw[if_neg hb1];simp[vw,k2]
                       · intro j hj;unfold World.freeze;rw[if_neg hb1];simp[vw,bV hj]
                       · unfold World.freeze;rw[if_neg hb1]
                       · unfold World.freeze;rw[if_neg hb1]
                       · unfold World.freeze;rw[if_neg hb1]
           · cases e
         · cases e
     · cases e
   · cases e
 · cases e
theorem JN (hE:bJ P E) {fr:Fr}{a:Act}{o:Oper}{v:Value}{h':ak}(hf:FR E ρ fr a) (hr:HR P ρ h w) (e:mb E fr o h=some (v,h')) :
  Qs P ρ h w (execOp a.eval o) v h':=by
 unfold mb at e
 split at e
 ·rename_i t x y ho;split at e;·rename_i u1 u2 h1 h2;simp only[aY,bA]at e;obtain⟨h3,e,rfl,rfl⟩:=e;obtain⟨w',hrun,hst⟩:=Ez hE hr e (bH hf h1) (bH hf h2);exact⟨.skip,undef,ρ,w',by simp[execOp,ho,hrun],rfl,VR.undef ρ,hst⟩
  ·cases e
 ·rename_i t m k x ho;split at e;·rename_i u1 u2 u3 h1 h2 h3;simp only[aY,bA]at e;obtain⟨h4,e,rfl,rfl⟩:=e;obtain⟨w',hrun,hst⟩:=sB hE hr e (bH hf h1) (bH hf h2) (bH hf h3);exact⟨.skip,undef,ρ,w',by simp[execOp,ho,hrun],rfl,VR.undef ρ,hst⟩
  ·cases e
 ·rename_i t m k x ho;split at e;·rename_i u1 u2 u3 h1 h2 h3;simp only[aY,bA]at e;obtain⟨h4,e,rfl,rfl⟩:=e;obtain⟨w',hrun,hst⟩:=sB hE hr e (bH hf h1) (bH hf h2) (bH hf h3);exact⟨.skip,undef,ρ,w',by simp[execOp,ho,hrun],rfl,VR.undef ρ,hst⟩
  ·cases e
 ·rename_i t m k ho;split at e;·rename_i u1 u2 h1 h2;obtain⟨v',w',hrun,r,hst⟩:=Bq hE hr e (bH hf h1) (bH hf h2);exact⟨.value v',v',ρ,w',by simp[execOp,ho,hrun],rfl,r,hst⟩
  ·cases e
 ·rename_i t m s x ho;split at e;·rename_i u1 u2 u3 h1 h2 h3;simp only[aY,bA]at e;obtain⟨h4,e,rfl,rfl⟩:=e;obtain⟨w',hrun,hst⟩:=yp (t:=t) hr e (bH hf h1) (bH hf h2) (bH hf h3);exact⟨.skip,undef,ρ,w',by simp[execOp,ho,hrun],rfl,VR.undef ρ,hst⟩
  ·cases e
 ·rename_i s d x ho;split at e;·rename_i u h1;obtain⟨v',ρ',w',hrun,r,hst⟩:=Gb hE hr e (bH hf h1);exact⟨.value v',v',ρ',w',by simp[execOp,ho,hrun],rfl,r,hst⟩
  ·cases e
 ·rename_i t x ho;split at e;·rename_i u h1;obtain⟨v',ρ',w',hrun,r,hst⟩:=HY hE hr e (bH hf h1);exact⟨.value v',v',ρ',w',by simp[execOp,ho,hrun],rfl,r,hst⟩
  ·cases e
 ·rename_i it s ho;split at e;·rename_i u h1;obtain⟨v',w',hrun,r,hst⟩:=LZ hr (ty:=o.type) e (bH hf h1);exact⟨.value v',v',ρ,w',by simp[execOp,ho,hrun],rfl,r,hst⟩
  ·cases e
 ·rename_i c ho;split at e
  ·rename_i b hb;obtain⟨cs,call⟩:∃ cs:Array Bool,∀ w:World,(execOp a.eval o).run P w=(builtin b c.argTypes o.type cs (c.args.map a.eval)).run P w:=by refine⟨c.args.map fun|.const _=>true|_=>false,fun w=>?_⟩;simp only[execOp,ho,resolve,hb,Sem.run_bind,Sem.run_pure,Result.andThen_ok,invoke];rfl
   split at e;·cases e
   ·rename_i args hargs;have rx:=kr hf hargs;split at e;·obtain⟨v',ρ',w',hrun,r,hst⟩:=EZ hE hr (ty:=o.type) e rx;exact⟨.value v',v',ρ',w',by simp[call,builtin,hrun],rfl,r,hst⟩
    ·obtain⟨v',w',hrun,r,hst⟩:=Ku hE hr (ty:=o.type) e rx;exact⟨.value v',v',ρ,w',by simp[call,builtin,hrun],rfl,r,hst⟩
    ·obtain⟨v',w',hrun,r,hst⟩:=HO hE hr (ty:=o.type) e rx;exact⟨.value v',v',ρ,w',by simp[call,builtin,hrun],rfl,r,hst⟩
    ·obtain⟨v',w',hrun,r,hst⟩:=wB hE hr (ty:=o.type) e rx;exact⟨.value v',v',ρ,w',by simp[call,builtin,hrun],rfl,r,hst⟩
    ·split at e
     ·rename_i t ts m k xs ht;simp only[aY,bA]at e;obtain⟨h3,e,rfl,rfl⟩:=e;have ht:c.argTypes[0]?=some t:=by
       have:c.argTypes.toList[0]?=some t:=by rw[ht];rfl
       simpa using this
      obtain⟨m',h0,rm⟩:=rx.get 0 _ rfl;obtain⟨k',h1,rk⟩:=rx.get 1 _ rfl;obtain⟨w',hrun,hst⟩:=FM hE hr (ty:=o.type) (xs:=c.args.map a.eval) ht (by rw[← lj];exact h0) (by rw[← lj];exact h1) e rm rk;exact⟨.value undef,undef,ρ,w',by rw[call];simp[builtin,hrun],rfl,VR.undef ρ,hst⟩
     ·cases e
    ·cases e
  ·cases e
 ·cases e
end
end Go.Ev

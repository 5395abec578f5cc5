/- THE CODE OF THE FUNCTIONS THAT THE LAW REACHES, AS PLAIN LEAN. Conditions: none. -/
import Derived.Test.YtohjaacnlmkhbaaGreatDoorKT
import Derived.Test.YtohjaacnlmkhbaaGreatDoorZF
import Derived.Test.YtohjaacnlmkhbaaGreatDoorChecked
import Derived.KernelRfl
set_option linter.unusedSimpArgs false
set_option linter.unusedVariables false
namespace Go.Proofs.YtohjaacnlmkhbaaGreatDoor
open Go.Ev Go Tryz
set_option linter.defProp false
noncomputable section
set_option maxRecDepth 100000
def oS:List (List UInt8):=[[110,111,112],[99,111,110,115,116],[97,100,100],[115,117,98],[109,117,108],[106,117,109,112],[122,101,114,111],[99,111,100,101]]
def nC (w:ByteArray):List (List UInt8)→Nat→Option Nat
 | [],_=>none
 | x::l,n=>cond (eqStr w ⟨x.toArray⟩) (some n) (nC w l (n+1))
def VP (es:List (Value×Value×Nat)) (fr:Fr) (h:Heap):Option (Option Nat) :=
 cond (Nat.beq es.length 8) (match fr.get 1 with
   | some (.pointer (some a))=>match cellAt h a with
     | some (.slice (some b) _ _)=>match cellAt h b with
       | some (.string w)=>some (nC w oS 0)
       | _=>none
     | _=>none
   | _=>none) none
noncomputable def XB:Env:={ bP Tryz.prog 6 (qb bz Di 7) with smap:=VC,W8:=VP }
noncomputable def env:Env:=E' XB Ii Ay
theorem aN {a b:Prop}(x:a) (y:b):a∧b:=⟨x,y⟩
noncomputable def qx (id:Nat):Code→Option (List Oper)
 | .region k o _=>cond (Nat.beq k id) (some o.toList) none
 | .seq a b=>match qx id a with|some l=>some l|none=>qx id b
 | .cond _ a b=>match qx id a with|some l=>some l|none=>qx id b
 | .block _ a=>qx id a
 | .loop a=>qx id a
 | .scope a=>qx id a
 | _=>none
noncomputable def rg (f:Func) (id:Nat):List GO:=match f.body with
 | some c=>match qx id c with
  | some l=>match aA (jM f.ntmps l) l with|some l=>l|none=>[]
  | none=>[]
 | none=>[]
noncomputable def pg (f:Func) (id:Nat) (pl:List (Nat×List Nat)):List (GO×List GO):=match f.body with
 | some c=>match qx id c with
  | some l=>match aA (fun (x:Nat×List Nat)=>match (nth l x.1).bind (jM f.ntmps l),aA (fun i=>(nth l i).bind (jM f.ntmps l)) x.2 with|some g,some a=>some (g,a)|_,_=>none) pl with|some l=>l|none=>[]
  | none=>[]
 | none=>[]
theorem uR (f:Func) (k:Nat) {l:List GO}(e:rg f k=l):∀⦃E:Env⦄⦃fr:Fr⦄⦃h:Heap⦄⦃Q:Fr→Heap→Prop⦄,fm E (rg f k) fr h Q=fm E l fr h Q:=by intros;rw[e]
theorem uQ {l l':List GO}(e:l=l'):∀⦃E:Env⦄⦃fr:Fr⦄⦃h:Heap⦄⦃Q:Fr→Heap→Prop⦄,fm E l fr h Q=fm E l' fr h Q:=by intros;rw[e]
theorem uP {l l':List (GO×List GO)}(e:l=l'):∀⦃E:Env⦄⦃fr:Fr⦄⦃h:Heap⦄⦃Q:Fr→Heap→Prop⦄,eR E l fr h Q=eR E l' fr h Q:=by intros;rw[e]
theorem uS {c c':GC}(e:c=c'):∀⦃E:Env⦄⦃nt:Nat⦄⦃rd:Option Nat⦄⦃fr:Fr⦄⦃h:Heap⦄⦃Q:Ex→Fr→Heap→Prop⦄,c.wp E nt rd fr h Q=c'.wp E nt rd fr h Q:=by intros;rw[e]
theorem eW (f n nt:Nat) (fn:Func) (g:GC) (rs:List ResultVar) (hx:∀ a h,env.ext f a h=none) (hf:env.nK.get f=some fn) (hg:fn.body.bind (clean env nt)=some g) (hn:fn.ntmps=nt) (hrs:fn.results.toList=rs) (hle:n≤nt):∀{args:List Value}{h:Heap}{K:Value→Heap→Prop},args.length=n→g.wp env nt none (iE args 0 .leaf) h (eY env rs K)→bT env (.func f) args h K:=fun hl w=>bT.u_ (hx _ _) hf hg hn hrs (by omega) w
theorem gC (f:Nat) (hq:env.qf f=false):∀{fr:Fr}{h:Heap}{K:Value→Heap→Prop}{xs:List Operand}{ts:Array TypeId},bY env (.call ⟨.value (.func f),⟨xs⟩,ts⟩) fr h K=lE env fr xs fun us=>bT env (.func f) us h K:=v_ hq
theorem gF (t f n:Nat) (ht:ES env t f=some n):∀{fr:Fr}{h:Heap}{K:Value→Heap→Prop}{x:Operand},bY env (.fieldAddr t x f) fr h K=bM env fr x fun v=>yy n v fun u=>K u h:=lI ht
theorem gL (t:Nat) (ht:zC env t=true):∀{fr:Fr}{h:Heap}{K:Value→Heap→Prop}{x:Operand},bY env (.load t x) fr h K=bM env fr x fun v=>Dk h v fun u=>K u h:=xZ ht
theorem Yr (t n:Nat) (ht:sk env t=some n):∀{fr:Fr}{h:Heap}{K:Value→Heap→Prop}{x:Operand},bY env (.load t x) fr h K=bM env fr x fun v=>C1 h n v fun u=>K u h:=x9 ht
theorem gS (t n:Nat) (ht:size env t=some n):∀{fr:Fr}{h:Heap}{K:Value→Heap→Prop}{x y:Operand},bY env (.store t x y) fr h K=bM env fr x fun p=>bM env fr y fun v=>Q4 n p v h K:=HC ht
theorem gA (t:Nat) (ht:zC env t=true):∀{h:Heap}{v:Value}{K:Value→Prop},DE env t v h K=Dk h v K:=Tf ht
theorem Yp (t n:Nat) (ht:sk env t=some n):∀{h:Heap}{v:Value}{K:Value→Prop},DE env t v h K=C1 h n v K:=Nd ht
theorem gI (t n:Nat) (ht:Bc env t=some n):∀{fr:Fr}{h:Heap}{K:Value→Heap→Prop}{x y:Operand},bY env (.indexAddr t x y) fr h K=bM env fr x fun v=>bM env fr y fun i=>GD n v i fun u=>K u h:=vm ht
theorem gB (t l e sz:Nat) (zs:List Value) (hx:Go.Ev.elemOf env t=some (e,sz,zs)) (hl:l*sz≤1000000):∀{fr:Fr}{h:Heap}{K:Value→Heap→Prop}{ps:List (Nat×Operand)},bY env (.buildSlice t l ⟨ps⟩) fr h K=nw env fr ps fun q=>RZ e sz zs l q h K:=wX hx hl
theorem gN (t:Nat) (ht:isSlice env t=true):∀{fr:Fr}{h:Heap}{K:Value→Heap→Prop}{x:Operand},bY env (.call ⟨.builtin .len,⟨[x]⟩,⟨[t]⟩⟩) fr h K=bM env fr x fun v=>Rq v fun u=>K u h:=OS ht
section
variable {fr:Fr}{h:Heap}{K:Value→Heap→Prop}{x y z:Operand}{ps:List (Nat×Operand)}
theorem Xn:bY env (.alloc 28) fr h K=K (.pointer (some ⟨h.n,0,none⟩)) (af h (.cells [.int .i64 0,.int .i64 0,.int .i64 0,.int .i64 0,.int .i64 0,.int .i64 0,.int .i64 0,.int .i64 0,.int .i64 0,.int .i64 0,.int .u64 0,.int .u64 0,.int .u64 0,.int .u64 0,.slice none 0 0,.slice none 0 0] 28 true)):=gK (v:=.agg ⟨[.int .i64 0,.int .i64 0,.int .i64 0,.int .i64 0,.int .i64 0,.int .i64 0,.int .i64 0,.int .i64 0,.int .i64 0,.int .i64 0,.int .u64 0,.int .u64 0,.int .u64 0,.int .u64 0,.slice none 0 0,.slice none 0 0]⟩) (by kernel_rfl) rfl rfl
theorem VG:bY env (.call ⟨.builtin .len,⟨[x]⟩,⟨[9]⟩⟩) fr h K=bM env fr x fun v=>uB v fun u=>K u h:=Ej (by kernel_rfl)
theorem Kj:bY env (.call ⟨.builtin .append,⟨[x,y]⟩,⟨[36,36]⟩⟩) fr h K=bM env fr x fun s=>bM env fr y fun v=>jN 5 1 s v h K:=jl (zs:=[.int .u8 0]) (by kernel_rfl) (by kernel_rfl)
theorem OZ:bY env (.call ⟨.builtin .append,⟨[x,y]⟩,⟨[23,23]⟩⟩) fr h K=bM env fr x fun s=>bM env fr y fun v=>jN 36 1 s v h K:=jl (zs:=[.slice none 0 0]) (by kernel_rfl) (by kernel_rfl)
theorem Kq:bY env (.call ⟨.builtin .append,⟨[x,y]⟩,⟨[26,26]⟩⟩) fr h K=bM env fr x fun s=>bM env fr y fun v=>jN 35 4 s v h K:=jl (zs:=[.int .i64 0,.int .i64 0,.int .i64 0,.int .i64 0]) (by kernel_rfl) (by kernel_rfl)
theorem Ql:∀ {a0 b0 a1 b1 a2 b2 a3 b3:Int},sL env 100 35 (.agg ⟨[.int .i64 a0,.int .i64 a1,.int .i64 a2,.int .i64 a3]⟩) (.agg ⟨[.int .i64 b0,.int .i64 b1,.int .i64 b2,.int .i64 b3]⟩)=some (decide ((a0=b0)∧((a1=b1)∧((a2=b2)∧((a3=b3)∧(True)))))):=by
 intro a0 b0 a1 b1 a2 b2 a3 b3;have e:sL env 100 35 (.agg ⟨[.int .i64 a0,.int .i64 a1,.int .i64 a2,.int .i64 a3]⟩) (.agg ⟨[.int .i64 b0,.int .i64 b1,.int .i64 b2,.int .i64 b3]⟩)=qI (some (a0==b0)) (qI (some (a1==b1)) (qI (some (a2==b2)) (qI (some (a3==b3)) (some true)))):=by kernel_rfl
 rw[e];simp only[vS,YX,Bool.decide_and,decide_true]
theorem S_:∀ {a0 b0 a1 b1 a2 b2 a3 b3:Int}{c:Bool}{K:Value→Prop},cd env .neq 35 c (.agg ⟨[.int .i64 a0,.int .i64 a1,.int .i64 a2,.int .i64 a3]⟩) (.agg ⟨[.int .i64 b0,.int .i64 b1,.int .i64 b2,.int .i64 b3]⟩) K=qj ((a0=b0)∧((a1=b1)∧((a2=b2)∧((a3=b3)∧(True))))) (K (.bool false)) (K (.bool true)):=Br (by kernel_rfl) Ql
theorem SB:∀ {a0 b0 a1 b1 a2 b2 a3 b3:Int}{c:Bool}{K:Value→Prop},cd env .eql 35 c (.agg ⟨[.int .i64 a0,.int .i64 a1,.int .i64 a2,.int .i64 a3]⟩) (.agg ⟨[.int .i64 b0,.int .i64 b1,.int .i64 b2,.int .i64 b3]⟩) K=qj ((a0=b0)∧((a1=b1)∧((a2=b2)∧((a3=b3)∧(True))))) (K (.bool true)) (K (.bool false)):=J5 (by kernel_rfl) Ql
theorem Yg:bY env (.alloc 56) fr h K=K (.pointer (some ⟨h.n,0,none⟩)) (af h (.cells [.pointer none,.slice none 0 0] 56 true)):=gK (v:=.agg ⟨[.pointer none,.slice none 0 0]⟩) (by kernel_rfl) rfl rfl
theorem Yw:bY env (.alloc 35) fr h K=K (.pointer (some ⟨h.n,0,none⟩)) (af h (.cells [.int .i64 0,.int .i64 0,.int .i64 0,.int .i64 0] 35 true)):=gK (v:=.agg ⟨[.int .i64 0,.int .i64 0,.int .i64 0,.int .i64 0]⟩) (by kernel_rfl) rfl rfl
theorem MC:bY env (.call ⟨.builtin .append,⟨[x,y]⟩,⟨[65,65]⟩⟩) fr h K=bM env fr x fun s=>bM env fr y fun v=>jN 9 1 s v h K:=jl (zs:=[.string ⟨⟨[]⟩⟩]) (by kernel_rfl) (by kernel_rfl)
theorem Yi:bY env (.build 35 ⟨ps⟩) fr h K=nw env fr ps fun l=>QU [.int .i64 0,.int .i64 0,.int .i64 0,.int .i64 0] [(0,1),(1,1),(2,1),(3,1)] l fun u=>K u h:=ml (by kernel_rfl)
theorem Yf:bY env (.build 28 ⟨ps⟩) fr h K=nw env fr ps fun l=>QU [.int .i64 0,.int .i64 0,.int .i64 0,.int .i64 0,.int .i64 0,.int .i64 0,.int .i64 0,.int .i64 0,.int .i64 0,.int .i64 0,.int .u64 0,.int .u64 0,.int .u64 0,.int .u64 0,.slice none 0 0,.slice none 0 0] [(0,15),(15,1)] l fun u=>K u h:=ml (by kernel_rfl)
theorem Q6:bY env (.convert 3 22 x) fr h K=bM env fr x fun v=>jV .u64 v fun u=>K u h:=fo (k':=.i64) (by kernel_rfl) (by kernel_rfl)
theorem SV:bY env (.convert 36 9 x) fr h K=bM env fr x fun v=>qW h v fun u=>K u h:=Dg (by kernel_rfl)
theorem Q_:bY env (.call ⟨.builtin .append,⟨[x,y]⟩,⟨[36,9]⟩⟩) fr h K=bM env fr x fun s=>bM env fr y fun v=>jN 5 1 s v h K:=jl (zs:=[.int .u8 0]) (by kernel_rfl) (by kernel_rfl)
theorem Y5:bY env (.makeMap 62 none) fr h K=K (.map (some h.n)) (af h (.smap [])):=rE (by kernel_rfl) rfl
theorem W1:bY env (.makeInterface 106 x) fr h K=bM env fr x fun v=>K (.iface 106 v) h:=lG (by kernel_rfl)
theorem Ve:bY env (.makeInterface 107 x) fr h K=bM env fr x fun v=>K (.iface 107 v) h:=lG (by kernel_rfl)
theorem WE:∀ {s:TypeId},bY env (.typeAssert x s 106 true) fr h K=bM env fr x fun v=>QR 106 (.pointer none) v fun u=>K u h:=nq (by kernel_rfl)
theorem Vp:∀ {s:TypeId},bY env (.typeAssert x s 107 true) fr h K=bM env fr x fun v=>QR 107 (.pointer none) v fun u=>K u h:=nq (by kernel_rfl)
theorem SH:bY env (.convert 22 3 x) fr h K=bM env fr x fun v=>jV .i64 v fun u=>K u h:=fo (k':=.u64) (by kernel_rfl) (by kernel_rfl)
theorem Vw:bY env (.alloc 125) fr h K=K (.pointer (some ⟨h.n,0,none⟩)) (af h (.cells [.int .u8 0,.int .u8 0,.int .u8 0,.int .u8 0] 125 true)):=gK (v:=.agg ⟨[.int .u8 0,.int .u8 0,.int .u8 0,.int .u8 0]⟩) (by kernel_rfl) rfl rfl
theorem S0:bY env (.convert 5 22 x) fr h K=bM env fr x fun v=>jV .u64 v fun u=>K u h:=fo (k':=.u8) (by kernel_rfl) (by kernel_rfl)
theorem Xj:bY env (.alloc 25) fr h K=K (.pointer (some ⟨h.n,0,none⟩)) (af h (.cells [.int .i64 0,.int .i64 0,.int .i64 0,.int .i64 0,.int .i64 0,.int .i64 0,.int .i64 0,.int .i64 0,.int .i64 0,.int .i64 0,.int .u64 0,.int .u64 0,.int .u64 0,.int .u64 0,.slice none 0 0] 25 true)):=gK (v:=.agg ⟨[.int .i64 0,.int .i64 0,.int .i64 0,.int .i64 0,.int .i64 0,.int .i64 0,.int .i64 0,.int .i64 0,.int .i64 0,.int .i64 0,.int .u64 0,.int .u64 0,.int .u64 0,.int .u64 0,.slice none 0 0]⟩) (by kernel_rfl) rfl rfl
theorem Vz:bY env (.alloc 101) fr h K=K (.pointer (some ⟨h.n,0,none⟩)) (af h (.cells [.string ⟨⟨[]⟩⟩,.nilIface,.int .i64 0,.int .i64 0,.string ⟨⟨[]⟩⟩,.nilIface,.int .i64 0,.int .i64 0,.string ⟨⟨[]⟩⟩,.nilIface,.int .i64 0,.int .i64 0,.string ⟨⟨[]⟩⟩,.nilIface,.int .i64 0,.int .i64 0,.string ⟨⟨[]⟩⟩,.nilIface,.int .i64 0,.int .i64 0,.string ⟨⟨[]⟩⟩,.nilIface,.int .i64 0,.int .i64 0,.string ⟨⟨[]⟩⟩,.nilIface,.int .i64 0,.int .i64 0,.string ⟨⟨[]⟩⟩,.nilIface,.int .i64 0,.int .i64 0,.string ⟨⟨[]⟩⟩,.nilIface,.int .i64 0,.int .i64 0,.string ⟨⟨[]⟩⟩,.nilIface,.int .i64 0,.int .i64 0,.string ⟨⟨[]⟩⟩,.nilIface,.int .i64 0,.int .i64 0,.string ⟨⟨[]⟩⟩,.nilIface,.int .i64 0,.int .i64 0,.string ⟨⟨[]⟩⟩,.nilIface,.int .i64 0,.int .i64 0,.string ⟨⟨[]⟩⟩,.nilIface,.int .i64 0,.int .i64 0] 101 true)):=gK (v:=.agg ⟨[.string ⟨⟨[]⟩⟩,.nilIface,.int .i64 0,.int .i64 0,.string ⟨⟨[]⟩⟩,.nilIface,.int .i64 0,.int .i64 0,.string ⟨⟨[]⟩⟩,.nilIface,.int .i64 0,.int .i64 0,.string ⟨⟨[]⟩⟩,.nilIface,.int .i64 0,.int .i64 0,.string ⟨⟨[]⟩⟩,.nilIface,.int .i64 0,.int .i64 0,.string ⟨⟨[]⟩⟩,.nilIface,.int .i64 0,.int .i64 0,.string ⟨⟨[]⟩⟩,.nilIface,.int .i64 0,.int .i64 0,.string ⟨⟨[]⟩⟩,.nilIface,.int .i64 0,.int .i64 0,.string ⟨⟨[]⟩⟩,.nilIface,.int .i64 0,.int .i64 0,.string ⟨⟨[]⟩⟩,.nilIface,.int .i64 0,.int .i64 0,.string ⟨⟨[]⟩⟩,.nilIface,.int .i64 0,.int .i64 0,.string ⟨⟨[]⟩⟩,.nilIface,.int .i64 0,.int .i64 0,.string ⟨⟨[]⟩⟩,.nilIface,.int .i64 0,.int .i64 0,.string ⟨⟨[]⟩⟩,.nilIface,.int .i64 0,.int .i64 0]⟩) (by kernel_rfl) rfl rfl
theorem VA:bY env (.build 100 ⟨ps⟩) fr h K=nw env fr ps fun l=>QU [.string ⟨⟨[]⟩⟩,.nilIface,.int .i64 0,.int .i64 0] [(0,1),(1,1),(2,1),(3,1)] l fun u=>K u h:=ml (by kernel_rfl)
theorem WJ:bY env (.build 101 ⟨ps⟩) fr h K=nw env fr ps fun l=>Iu [.string ⟨⟨[]⟩⟩,.nilIface,.int .i64 0,.int .i64 0,.string ⟨⟨[]⟩⟩,.nilIface,.int .i64 0,.int .i64 0,.string ⟨⟨[]⟩⟩,.nilIface,.int .i64 0,.int .i64 0,.string ⟨⟨[]⟩⟩,.nilIface,.int .i64 0,.int .i64 0,.string ⟨⟨[]⟩⟩,.nilIface,.int .i64 0,.int .i64 0,.string ⟨⟨[]⟩⟩,.nilIface,.int .i64 0,.int .i64 0,.string ⟨⟨[]⟩⟩,.nilIface,.int .i64 0,.int .i64 0,.string ⟨⟨[]⟩⟩,.nilIface,.int .i64 0,.int .i64 0,.string ⟨⟨[]⟩⟩,.nilIface,.int .i64 0,.int .i64 0,.string ⟨⟨[]⟩⟩,.nilIface,.int .i64 0,.int .i64 0,.string ⟨⟨[]⟩⟩,.nilIface,.int .i64 0,.int .i64 0,.string ⟨⟨[]⟩⟩,.nilIface,.int .i64 0,.int .i64 0,.string ⟨⟨[]⟩⟩,.nilIface,.int .i64 0,.int .i64 0,.string ⟨⟨[]⟩⟩,.nilIface,.int .i64 0,.int .i64 0] 4 l fun u=>K u h:=EX (by kernel_rfl)
theorem R8:∀ {a0 b0 a1 b1 a2 b2 a3 b3:Int},sL env 100 125 (.agg ⟨[.int .u8 a0,.int .u8 a1,.int .u8 a2,.int .u8 a3]⟩) (.agg ⟨[.int .u8 b0,.int .u8 b1,.int .u8 b2,.int .u8 b3]⟩)=some (decide ((a0=b0)∧((a1=b1)∧((a2=b2)∧((a3=b3)∧(True)))))):=by
 intro a0 b0 a1 b1 a2 b2 a3 b3;have e:sL env 100 125 (.agg ⟨[.int .u8 a0,.int .u8 a1,.int .u8 a2,.int .u8 a3]⟩) (.agg ⟨[.int .u8 b0,.int .u8 b1,.int .u8 b2,.int .u8 b3]⟩)=qI (some (a0==b0)) (qI (some (a1==b1)) (qI (some (a2==b2)) (qI (some (a3==b3)) (some true)))):=by kernel_rfl
 rw[e];simp only[vS,YX,Bool.decide_and,decide_true]
theorem K1:∀ {a0 b0 a1 b1 a2 b2 a3 b3:Int}{c:Bool}{K:Value→Prop},cd env .neq 125 c (.agg ⟨[.int .u8 a0,.int .u8 a1,.int .u8 a2,.int .u8 a3]⟩) (.agg ⟨[.int .u8 b0,.int .u8 b1,.int .u8 b2,.int .u8 b3]⟩) K=qj ((a0=b0)∧((a1=b1)∧((a2=b2)∧((a3=b3)∧(True))))) (K (.bool false)) (K (.bool true)):=Br (by kernel_rfl) R8
theorem Vq:bY env (.makeMap 148 none) fr h K=K (.map (some h.n)) (af h (.smap [])):=rE (by kernel_rfl) rfl
theorem Fq:bY env (.convert 5 3 x) fr h K=bM env fr x fun v=>jV .i64 v fun u=>K u h:=fo (k':=.u8) (by kernel_rfl) (by kernel_rfl)
theorem CQ:∀ {xs:List Operand}{ts:Array TypeId},bY env (.call ⟨.value (.func 96),⟨xs⟩,ts⟩) fr h K=lE env fr xs fun us=>dq (env.qc 96 us) fun v=>K v h:=yf rfl
theorem Oc:∀ {xs:List Operand}{ts:Array TypeId},bY env (.call ⟨.value (.func 97),⟨xs⟩,ts⟩) fr h K=lE env fr xs fun us=>dq (env.qc 97 us) fun v=>K v h:=yf rfl
theorem Qx:bY env (.convert 123 3 x) fr h K=bM env fr x fun v=>jV .i64 v fun u=>K u h:=fo (k':=.u8) (by kernel_rfl) (by kernel_rfl)
theorem Vb:bY env (.alloc 100) fr h K=K (.pointer (some ⟨h.n,0,none⟩)) (af h (.cells [.string ⟨⟨[]⟩⟩,.nilIface,.int .i64 0,.int .i64 0] 100 true)):=gK (v:=.agg ⟨[.string ⟨⟨[]⟩⟩,.nilIface,.int .i64 0,.int .i64 0]⟩) (by kernel_rfl) rfl rfl
theorem V7:bY env (.convert 3 5 x) fr h K=bM env fr x fun v=>jV .u8 v fun u=>K u h:=fo (k':=.i64) (by kernel_rfl) (by kernel_rfl)
theorem P8:bY env (.convert 3 123 x) fr h K=bM env fr x fun v=>jV .u8 v fun u=>K u h:=fo (k':=.i64) (by kernel_rfl) (by kernel_rfl)
theorem V':bY env (.build 125 ⟨ps⟩) fr h K=nw env fr ps fun l=>QU [.int .u8 0,.int .u8 0,.int .u8 0,.int .u8 0] [(0,1),(1,1),(2,1),(3,1)] l fun u=>K u h:=ml (by kernel_rfl)
theorem Rg:bY env (.convert 22 5 x) fr h K=bM env fr x fun v=>jV .u8 v fun u=>K u h:=fo (k':=.u64) (by kernel_rfl) (by kernel_rfl)
theorem Wx:bY env (.alloc 163) fr h K=K (.pointer (some ⟨h.n,0,none⟩)) (af h (.cells [.int .i64 0,.int .i64 0,.int .i64 0,.int .i64 0] 163 true)):=gK (v:=.agg ⟨[.int .i64 0,.int .i64 0,.int .i64 0,.int .i64 0]⟩) (by kernel_rfl) rfl rfl
theorem Vx:bY env (.indexAddr 163 x y) fr h K=bM env fr x fun v=>bM env fr y fun i=>yx 4 1 v i fun u=>K u h:=kr (by kernel_rfl)
theorem Es:bY env (.call ⟨.builtin .append,⟨[x,y]⟩,⟨[157,157]⟩⟩) fr h K=bM env fr x fun s=>bM env fr y fun v=>jN 125 4 s v h K:=jl (zs:=[.int .u8 0,.int .u8 0,.int .u8 0,.int .u8 0]) (by kernel_rfl) (by kernel_rfl)
theorem WM:bY env (.alloc 171) fr h K=K (.pointer (some ⟨h.n,0,none⟩)) (af h (.cells [.int .u8 0,.int .u8 0,.int .u8 0,.int .u8 0,.int .u8 0,.int .u8 0,.int .u8 0,.int .u8 0,.int .u8 0,.int .u8 0,.int .u8 0,.int .u8 0,.int .u8 0,.int .u8 0,.int .u8 0,.int .u8 0,.int .u8 0,.int .u8 0,.int .u8 0,.int .u8 0,.int .u8 0,.int .u8 0,.int .u8 0,.int .u8 0] 171 true)):=gK (v:=.agg ⟨[.int .u8 0,.int .u8 0,.int .u8 0,.int .u8 0,.int .u8 0,.int .u8 0,.int .u8 0,.int .u8 0,.int .u8 0,.int .u8 0,.int .u8 0,.int .u8 0,.int .u8 0,.int .u8 0,.int .u8 0,.int .u8 0,.int .u8 0,.int .u8 0,.int .u8 0,.int .u8 0,.int .u8 0,.int .u8 0,.int .u8 0,.int .u8 0]⟩) (by kernel_rfl) rfl rfl
theorem Vt:bY env (.makeMap 176 none) fr h K=K (.map (some h.n)) (af h (.map [] 0)):=tD (by kernel_rfl) rfl
theorem Ro:bY env (.convert 2 22 x) fr h K=bM env fr x fun v=>jV .u64 v fun u=>K u h:=fo (k':=.i64) (by kernel_rfl) (by kernel_rfl)
theorem Wk:bY env (.makeInterface 188 x) fr h K=bM env fr x fun v=>K (.iface 188 v) h:=lG (by kernel_rfl)
theorem KS:bY env (.convert 3 149 x) fr h K=bM env fr x fun v=>jV .u64 v fun u=>K u h:=fo (k':=.i64) (by kernel_rfl) (by kernel_rfl)
theorem Vs:bY env (.makeMap 158 none) fr h K=K (.map (some h.n)) (af h (.map [] 0)):=tD (by kernel_rfl) rfl
theorem Wy:bY env (.build 178 ⟨ps⟩) fr h K=nw env fr ps fun l=>QU [.string ⟨⟨[]⟩⟩] [(0,1)] l fun u=>K u h:=ml (by kernel_rfl)
theorem Wh:bY env (.indexAddr 171 x y) fr h K=bM env fr x fun v=>bM env fr y fun i=>yx 24 1 v i fun u=>K u h:=kr (by kernel_rfl)
theorem gl_2:∀ {K:Value→Prop},bM env fr (.global 2) K=K (.pointer (some ⟨2,0,none⟩)):=FE rfl
theorem WO:bY env (.indexAddr 207 x y) fr h K=bM env fr x fun v=>bM env fr y fun i=>yx 20 1 v i fun u=>K u h:=kr (by kernel_rfl)
end
def Xu:GC:=.seq ((.seq (.ops (rg f4 8)) (.cond (.tmp 37) (.seq (.ops (rg f4 9)) .ret) .skip))) (.seq (.ops (rg f4 10)) (.seq (.ops (rg f4 11)) .ret))
def UJ:GC:=.seq (.ops (rg f4 5)) (.seq ((.seq (.ops (rg f4 6)) (.cond (.tmp 35) (.seq (.ops (rg f4 7)) .ret) .skip))) Xu)
def Uc:GC:=.seq ((.seq (.ops (rg f4 1)) (.cond (.tmp 10) (.seq (.ops (rg f4 2)) .ret) .skip))) (.seq (.ops (rg f4 3)) (.seq (.ops (rg f4 4)) UJ))
def Yb:GC:=.seq (.ops (rg f4 0)) Uc
def Y9:GC:=.seq ((.seq (.ops (rg f5 5)) (.cond (.tmp 29) (.seq (.ops (rg f5 0)) .ret) .skip))) (.seq (.ops (rg f5 7)) .ret)
def TQ:GC:=.seq ((.seq (.ops (rg f5 1)) (.cond (.tmp 9) (.seq (.ops (rg f5 2)) .ret) .skip))) (.seq (.ops (rg f5 3)) (.seq (.ops (rg f5 4)) Y9))
def Tu:GC:=.seq (.ops (rg f5 0)) TQ
def F5:=@eW 5 1 41 f5 Tu [.tmp 2] (fun _ _=>rfl) (by kernel_rfl) (by kernel_rfl) rfl rfl (by decide)
def s6_3:GC:=.seq (.ops (rg f6 0)) (.seq (.ops (rg f6 1)) .ret)
def TE:=pg f10 6 [(0,[]),(1,[]),(2,[]),(3,[]),(4,[]),(5,[]),(6,[]),(7,[]),(8,[]),(9,[]),(10,[])]
def UT:GC:=.seq (.block 1 (.seq (.fZ TE) (.cond (.tmp 38) (.seq (.ops (rg f10 2)) .ret) .skip))) (.ops (rg f10 5))
def N':GC:=.seq (.ops (rg f10 3)) (.block 0 (.loop (.seq ((.seq (.ops (rg f10 4)) (.cond (.tmp 25) .skip (.exit 0)))) UT)))
def MQ:GC:=.seq ((.seq (.ops (rg f10 1)) (.cond (.tmp 20) (.seq (.ops (rg f10 2)) .ret) .skip))) (.seq (N') (.seq (.ops (rg f10 8)) .ret))
def Oa:GC:=.seq (.ops (rg f10 0)) MQ
def F10:=@eW 10 2 39 f10 Oa [.tmp 4] (fun _ _=>rfl) (by kernel_rfl) (by kernel_rfl) rfl rfl (by decide)
def PB:GC:=.seq ((.cond (.tmp 68) .skip (.exit 6))) (.seq (.block 7 (.seq (.ops (rg f12 24)) (.ops (rg f12 25)))) (.ops (rg f12 26)))
def FB:GC:=.seq ((.seq (.ops (rg f12 22)) (.block 6 (.loop (.seq (.ops (rg f12 23)) PB))))) (.seq (.ops (rg f12 27)) .ret)
def Pk:GC:=.seq ((.cond (.tmp 55) .skip (.exit 4))) (.seq (.block 5 (.seq (.ops (rg f12 18)) (.ops (rg f12 19)))) (.ops (rg f12 20)))
def Oh:GC:=.loop (.seq (.ops (rg f12 17)) Pk)
def MW:GC:=.block 4 Oh
def Mr:GC:=.seq (.block 3 (.seq (.ops (rg f12 14)) (.seq (.ops (rg f12 15)) (.seq (.ops (rg f12 16)) MW)))) (.ops (rg f12 21))
def LW:GC:=.block 2 (.loop (.seq (.ops (rg f12 13)) (.seq ((.cond (.tmp 45) .skip (.exit 2))) Mr)))
def A3:GC:=.seq ((.seq (.ops (rg f12 12)) LW)) FB
def P5:GC:=.seq ((.cond (.tmp 27) .skip (.exit 0))) (.seq (.block 1 (.seq (.ops (rg f12 9)) (.ops (rg f12 10)))) (.ops (rg f12 11)))
def Ed:GC:=.seq ((.seq (.ops (rg f12 7)) (.block 0 (.loop (.seq (.ops (rg f12 8)) P5))))) A3
def E2:GC:=.seq (.ops (rg f12 4)) (.seq (.ops (rg f12 5)) (.seq (.ops (rg f12 6)) Ed))
def J3:GC:=.seq (.ops (rg f12 1)) (.seq (.ops (rg f12 2)) (.cond (.tmp 19) (.seq (.ops (rg f12 3)) .ret) .skip))
def MP:GC:=.seq (.ops (rg f12 0)) (.seq (J3) E2)
def F12:=@eW 12 1 77 f12 MP [.tmp 2,.tmp 3] (fun _ _=>rfl) (by kernel_rfl) (by kernel_rfl) rfl rfl (by decide)
def T_:GC:=.seq ((.seq (.ops (rg f13 10)) (.cond (.tmp 50) (.seq (.ops (rg f13 11)) .ret) .skip))) (.seq (.ops (rg f13 12)) .ret)
def LL:GC:=.seq (.ops (rg f13 7)) (.seq (.ops (rg f13 8)) (.cond (.tmp 46) (.seq (.ops (rg f13 9)) .ret) .skip))
def Lx:GC:=.seq ((.seq (.ops (rg f13 5)) (.cond (.tmp 16) .skip (.exit 0)))) (.seq (.block 1 LL) (.ops (rg f13 6)))
def Qm:GC:=.seq (.ops (rg f13 1)) (.seq (.ops (rg f13 2)) (.cond (.tmp 10) (.seq (.ops (rg f13 3)) .ret) .skip))
def JY:GC:=.seq (.ops (rg f13 0)) (.seq (Qm) (.seq ((.seq (.ops (rg f13 4)) (.block 0 (.loop Lx)))) T_))
def F13:=@eW 13 1 51 f13 JY [.tmp 2] (fun _ _=>rfl) (by kernel_rfl) (by kernel_rfl) rfl rfl (by decide)
def O0:GC:=.cond (.tmp 11) (.seq (.ops (rg f14 5)) .ret) (.seq (.ops (rg f14 6)) (.cond (.tmp 15) (.seq (.ops (rg f14 7)) .ret) .skip))
def OL:GC:=.seq (.ops (rg f14 2)) (.cond (.tmp 7) (.seq (.ops (rg f14 3)) .ret) (.seq (.ops (rg f14 4)) O0))
def Lt:GC:=.seq (.ops (rg f14 0)) (.seq ((.seq (.ops (rg f14 1)) (.block 0 OL))) (.seq (.ops (rg f14 8)) .ret))
def F14:=@eW 14 1 20 f14 Lt [.tmp 2] (fun _ _=>rfl) (by kernel_rfl) (by kernel_rfl) rfl rfl (by decide)
def UG:GC:=.seq (.ops (rg f15 25)) (.seq (.ops (rg f15 26)) (.cond (.tmp 126) (.seq (.ops (rg f15 27)) .ret) .skip))
def TH:GC:=.seq (UG) (.seq (.ops (rg f15 28)) .ret)
def LZ:GC:=.seq (.block 4 (.seq (.ops (rg f15 21)) (.seq (.ops (rg f15 22)) (.ops (rg f15 23))))) (.ops (rg f15 24))
def NS:GC:=.block 3 (.loop (.seq (.ops (rg f15 20)) (.seq ((.cond (.tmp 98) .skip (.exit 3))) LZ)))
def A_:GC:=.seq ((.seq (.ops (rg f15 19)) NS)) TH
def PY:=pg f15 11 [(0,[]),(1,[]),(2,[]),(3,[]),(4,[]),(5,[]),(6,[]),(7,[]),(8,[]),(9,[])]
def Nc:=pg f15 15 [(0,[]),(1,[]),(2,[]),(3,[1]),(4,[]),(5,[]),(6,[]),(7,[])]
def ON:=pg f15 17 [(0,[]),(1,[]),(2,[]),(3,[]),(4,[]),(5,[]),(6,[]),(7,[]),(8,[])]
def Ox:GC:=.cond (.tmp 73) (.fZ ON) (.exit 0)
def LN:GC:=.cond (.tmp 52) (.ops (rg f15 13)) (.seq (.ops (rg f15 14)) (.cond (.tmp 61) (.fZ Nc) (.seq (.ops (rg f15 16)) Ox)))
def EH:GC:=.cond (.tmp 36) (.fZ PY) (.seq (.ops (rg f15 12)) LN)
def Lq:GC:=.seq (.ops (rg f15 8)) (.cond (.tmp 30) (.ops (rg f15 9)) (.seq (.ops (rg f15 10)) EH))
def Ee:GC:=.block 2 Lq
def NO:GC:=.seq (.block 1 (.seq (.ops (rg f15 5)) (.seq (.ops (rg f15 6)) (.seq (.ops (rg f15 7)) Ee)))) (.ops (rg f15 18))
def QN:GC:=.loop (.seq (.ops (rg f15 4)) (.seq ((.cond (.tmp 22) .skip (.exit 0))) NO))
def QO:GC:=.seq (.ops (rg f15 2)) (.seq (.skip) (.seq ((.seq (.ops (rg f15 3)) (.block 0 QN))) A_))
def Mz:GC:=.seq (.ops (rg f15 0)) (.seq (.ops (rg f15 1)) QO)
def F15:=@eW 15 1 129 f15 Mz [.cell 2 28,.tmp 3] (fun _ _=>rfl) (by kernel_rfl) (by kernel_rfl) rfl rfl (by decide)
def Pz:GC:=.seq ((.seq (.ops (rg f16 18)) (.cond (.tmp 75) .skip (.exit 6)))) (.seq (.block 7 (.ops (rg f16 20))) (.ops (rg f16 19)))
def Fm:GC:=.seq ((.seq (.ops (rg f16 17)) (.block 6 (.loop Pz)))) (.seq (.ops (rg f16 21)) .ret)
def M8:GC:=.seq ((.seq (.ops (rg f16 14)) (.cond (.tmp 60) .skip (.exit 4)))) (.seq (.block 5 (.ops (rg f16 16))) (.ops (rg f16 15)))
def J8:GC:=.loop M8
def Kl:GC:=.block 4 J8
def PA:GC:=.seq (.block 3 (.seq (.ops (rg f16 11)) (.seq (.ops (rg f16 12)) (.seq (.ops (rg f16 13)) Kl)))) (.ops (rg f16 10))
def OG:GC:=.block 2 (.loop (.seq ((.seq (.ops (rg f16 9)) (.cond (.tmp 41) .skip (.exit 2)))) PA))
def Em:GC:=.seq ((.seq (.ops (rg f16 8)) OG)) Fm
def JV:=pg f16 7 [(0,[]),(1,[]),(2,[]),(3,[]),(4,[]),(8,[]),(9,[]),(10,[]),(11,[]),(5,[11]),(6,[]),(7,[]),(12,[]),(13,[]),(14,[])]
def La:GC:=.seq ((.seq (.ops (rg f16 5)) (.cond (.tmp 19) .skip (.exit 0)))) (.seq (.block 1 (.fZ JV)) (.ops (rg f16 6)))
def Mb:GC:=.seq (.ops (rg f16 2)) (.seq (.ops (rg f16 3)) (.seq ((.seq (.ops (rg f16 4)) (.block 0 (.loop La)))) Em))
def Jx:GC:=.seq (.ops (rg f16 0)) (.seq (.ops (rg f16 1)) Mb)
def F16:=@eW 16 1 88 f16 Jx [.tmp 2] (fun _ _=>rfl) (by kernel_rfl) (by kernel_rfl) rfl rfl (by decide)
def Pm:GC:=.seq (.ops (rg f17 33)) .ret
def N1:GC:=.seq (.ops (rg f17 32)) .ret
def Ua:GC:=.seq ((.seq (.ops (rg f17 31)) (.cond (.tmp 158) N1 .skip))) Pm
def Ad:GC:=.seq (.ops (rg f17 29)) (.seq (.ops (rg f17 30)) Ua)
def MS:GC:=.seq ((.seq (.ops (rg f17 25)) (.cond (.tmp 132) (.seq (.ops (rg f17 26)) .ret) .skip))) (.seq (.ops (rg f17 27)) (.ops (rg f17 28)))
def Mq:GC:=.seq (.ops (rg f17 24)) MS
def LO:GC:=.seq ((.seq (.ops (rg f17 21)) (.cond (.tmp 115) .skip (.exit 4)))) (.block 5 (.seq (.ops (rg f17 22)) (.ops (rg f17 23))))
def FL:GC:=.loop LO
def Pa:GC:=.block 3 (.seq (.ops (rg f17 19)) (.seq (.ops (rg f17 20)) (.seq (.block 4 FL) Mq)))
def Eu:GC:=.seq (.block 2 (.loop (.seq ((.seq (.ops (rg f17 18)) (.cond (.tmp 95) .skip (.exit 2)))) Pa))) Ad
def Oy:GC:=.seq (.ops (rg f17 17)) Eu
def Pr:GC:=.seq ((.seq (.ops (rg f17 14)) (.cond (.tmp 74) (.seq (.ops (rg f17 15)) .ret) .skip))) (.ops (rg f17 16))
def Ky:=pg f17 11 [(0,[]),(1,[]),(2,[]),(3,[]),(4,[]),(5,[]),(6,[]),(7,[]),(8,[]),(9,[]),(10,[]),(11,[6]),(12,[]),(13,[])]
def OM:GC:=.seq ((.seq (.fZ Ky) (.cond (.tmp 60) (.seq (.ops (rg f17 12)) .ret) .skip))) (.seq (.ops (rg f17 13)) Pr)
def Kr:GC:=.seq ((.seq (.ops (rg f17 8)) (.cond (.tmp 39) .skip (.exit 0)))) (.seq (.block 1 (.seq (.ops (rg f17 10)) OM)) (.ops (rg f17 9)))
def ER:GC:=.seq ((.seq (.ops (rg f17 7)) (.block 0 (.loop Kr)))) Oy
def FV:GC:=.seq (.ops (rg f17 6)) ER
def FO:GC:=.seq (.ops (rg f17 5)) .ret
def MH:GC:=.seq (.ops (rg f17 3)) (.seq ((.seq (.ops (rg f17 4)) (.cond (.tmp 34) FO .skip))) FV)
def OI:GC:=.seq (.ops (rg f17 0)) (.seq (.ops (rg f17 1)) (.seq (.ops (rg f17 2)) MH))
def F17:=@eW 17 1 161 f17 OI [.cell 2 28,.tmp 3] (fun _ _=>rfl) (by kernel_rfl) (by kernel_rfl) rfl rfl (by decide)
def Tq:=pg f22 18 [(0,[]),(1,[]),(2,[]),(3,[]),(4,[]),(5,[]),(6,[]),(7,[]),(8,[]),(9,[]),(10,[]),(11,[]),(12,[])]
def UR:GC:=.seq (.block 5 (.seq (.fZ Tq) (.cond (.tmp 76) (.seq (.ops (rg f22 6)) .ret) .skip))) (.ops (rg f22 17))
def QI:GC:=.block 4 (.loop (.seq ((.seq (.ops (rg f22 16)) (.cond (.tmp 61) .skip (.exit 4)))) UR))
def Om:GC:=.seq ((.seq (.ops (rg f22 13)) (.cond (.tmp 56) (.seq (.ops (rg f22 6)) .ret) .skip))) (.seq ((.seq (.ops (rg f22 15)) QI)) (.seq (.ops (rg f22 20)) .ret))
def Nx:=pg f22 11 [(0,[]),(1,[]),(2,[]),(3,[]),(4,[]),(5,[]),(6,[]),(7,[]),(8,[])]
def NM:GC:=.seq (.block 3 (.seq (.fZ Nx) (.cond (.tmp 49) (.seq (.ops (rg f22 6)) .ret) .skip))) (.ops (rg f22 10))
def LG:GC:=.block 2 (.loop (.seq ((.seq (.ops (rg f22 9)) (.cond (.tmp 38) .skip (.exit 2)))) NM))
def QM:=pg f22 7 [(0,[]),(2,[]),(1,[2]),(3,[]),(4,[]),(5,[])]
def Qg:=pg f22 5 [(0,[]),(1,[]),(2,[]),(3,[]),(4,[]),(5,[]),(6,[]),(7,[]),(8,[])]
def Mm:GC:=.seq (.block 1 (.seq (.fZ Qg) (.cond (.tmp 30) (.seq (.ops (rg f22 6)) .ret) .skip))) (.ops (rg f22 4))
def LK:GC:=.block 0 (.loop (.seq ((.seq (.ops (rg f22 3)) (.cond (.tmp 19) .skip (.exit 0)))) Mm))
def Mc:GC:=.seq ((.seq (.ops (rg f22 2)) LK)) (.seq (.fZ QM) (.seq ((.seq (.ops (rg f22 8)) LG)) Om))
def Qp:=pg f22 1 [(0,[]),(2,[]),(1,[2]),(3,[]),(4,[]),(5,[])]
def Lm:GC:=.seq (.ops (rg f22 0)) (.seq (.fZ Qp) Mc)
def F22:=@eW 22 2 77 f22 Lm [.tmp 4] (fun _ _=>rfl) (by kernel_rfl) (by kernel_rfl) rfl rfl (by decide)
def UW:GC:=.ops (rg f25 0)
def F25:=@eW 25 2 6 f25 UW [] (fun _ _=>rfl) (by kernel_rfl) (by kernel_rfl) rfl rfl (by decide)
def UZ:GC:=.seq (.ops (rg f26 0)) (.seq (.ops (rg f26 1)) (.seq (.ops (rg f26 2)) (.seq (.ops (rg f26 3)) .ret)))
def F26:=@eW 26 2 19 f26 UZ [.tmp 4,.tmp 5] (fun _ _=>rfl) (by kernel_rfl) (by kernel_rfl) rfl rfl (by decide)
def T7:=pg f27 1 [(0,[]),(1,[]),(2,[]),(3,[]),(4,[]),(6,[]),(7,[]),(8,[]),(9,[]),(11,[]),(12,[]),(13,[]),(14,[]),(16,[]),(17,[]),(18,[]),(19,[]),(21,[]),(22,[]),(23,[]),(24,[]),(26,[]),(27,[]),(28,[]),(29,[]),(31,[]),(32,[]),(33,[]),(34,[]),(36,[]),(37,[]),(38,[]),(39,[]),(41,[]),(42,[]),(43,[]),(44,[]),(46,[]),(47,[]),(48,[]),(49,[]),(51,[]),(52,[]),(53,[]),(54,[]),(56,[]),(57,[]),(58,[]),(59,[]),(61,[]),(62,[]),(63,[]),(64,[]),(66,[]),(67,[]),(68,[]),(69,[])]
def Uz:=pg f27 1 [(5,[]),(10,[]),(15,[]),(20,[]),(25,[]),(30,[]),(35,[]),(40,[]),(45,[]),(50,[]),(55,[]),(60,[]),(65,[]),(70,[]),(71,[]),(72,[])]
def Yd:List Op:=[.insert 62 (.tmp 3) (.const (.string ⟨⟨[112,115]⟩⟩)) (.tmp 7),.insert 62 (.tmp 3) (.const (.string ⟨⟨[114,105,110,103]⟩⟩)) (.tmp 11),.insert 62 (.tmp 3) (.const (.string ⟨⟨[103,115]⟩⟩)) (.tmp 15),.insert 62 (.tmp 3) (.const (.string ⟨⟨[99,111,110,116,101,120,116,115]⟩⟩)) (.tmp 19),.insert 62 (.tmp 3) (.const (.string ⟨⟨[100,111,109,97,105,110,115]⟩⟩)) (.tmp 23),.insert 62 (.tmp 3) (.const (.string ⟨⟨[110,111,100,101,115]⟩⟩)) (.tmp 27),.insert 62 (.tmp 3) (.const (.string ⟨⟨[115,108,111,116,115]⟩⟩)) (.tmp 31),.insert 62 (.tmp 3) (.const (.string ⟨⟨[114,101,102,105,108,108,115]⟩⟩)) (.tmp 35),.insert 62 (.tmp 3) (.const (.string ⟨⟨[97,117,100,105,116]⟩⟩)) (.tmp 39),.insert 62 (.tmp 3) (.const (.string ⟨⟨[115,108,105,99,101]⟩⟩)) (.tmp 43),.insert 62 (.tmp 3) (.const (.string ⟨⟨[99,112,117]⟩⟩)) (.tmp 47),.insert 62 (.tmp 3) (.const (.string ⟨⟨[112,101,114,105,111,100]⟩⟩)) (.tmp 51),.insert 62 (.tmp 3) (.const (.string ⟨⟨[98,117,100,103,101,116]⟩⟩)) (.tmp 55),.insert 62 (.tmp 3) (.const (.string ⟨⟨[101,97,99,104]⟩⟩)) (.tmp 59)]
def T':GC:=.seq (.ops (rg f27 0)) (.seq (.wC T7 Uz Yd) .ret)
def F27:=@eW 27 1 61 f27 T' [.tmp 2] (fun _ _=>rfl) (by kernel_rfl) (by kernel_rfl) rfl rfl (by decide)
def Uo:GC:=.seq (.ops (rg f29 0)) (.seq (.ops (rg f29 1)) .ret)
def F29:=@eW 29 1 5 f29 Uo [.tmp 2] (fun _ _=>rfl) (by kernel_rfl) (by kernel_rfl) rfl rfl (by decide)
def JZ:GC:=.seq (.ops (rg f30 5)) (.cond (.tmp 14) (.seq (.ops (rg f30 6)) (.seq (.ops (rg f30 7)) .ret)) .skip)
def ND:GC:=.seq (.ops (rg f30 2)) (.cond (.tmp 7) (.seq (.ops (rg f30 3)) (.seq (.ops (rg f30 4)) .ret)) JZ)
def Mx:GC:=.seq (.ops (rg f30 0)) (.seq ((.seq (.ops (rg f30 1)) (.block 0 ND))) (.seq (.ops (rg f30 0)) .ret))
def F30:=@eW 30 1 20 f30 Mx [.tmp 2] (fun _ _=>rfl) (by kernel_rfl) (by kernel_rfl) rfl rfl (by decide)
def Ut:GC:=.seq (.ops (rg f31 0)) (.seq (.ops (rg f31 1)) (.seq (.ops (rg f31 2)) .ret))
def F31:=@eW 31 1 11 f31 Ut [.tmp 2] (fun _ _=>rfl) (by kernel_rfl) (by kernel_rfl) rfl rfl (by decide)
def Pj:GC:=.seq ((.seq (.ops (rg f32 6)) (.cond (.tmp 21) (.ops (rg f32 7)) .skip))) (.ops (rg f32 8))
def Lw:GC:=.seq ((.seq (.ops (rg f32 3)) (.cond (.tmp 11) .skip (.exit 0)))) (.seq (.block 1 (.seq (.ops (rg f32 5)) Pj)) (.ops (rg f32 4)))
def Mf:GC:=.seq (.ops (rg f32 1)) (.seq ((.seq (.ops (rg f32 2)) (.block 0 (.loop Lw)))) (.seq (.ops (rg f32 9)) .ret))
def Nv:GC:=.seq (.ops (rg f32 0)) Mf
def F32:=@eW 32 1 37 f32 Nv [.tmp 2] (fun _ _=>rfl) (by kernel_rfl) (by kernel_rfl) rfl rfl (by decide)
def U4:=pg f33 3 [(0,[]),(1,[]),(3,[]),(4,[]),(6,[]),(7,[]),(2,[4,7]),(5,[7]),(8,[]),(9,[]),(10,[]),(11,[])]
def Un:GC:=.seq ((.seq (.ops (rg f33 1)) (.cond (.tmp 5) (.seq (.ops (rg f33 2)) .ret) .skip))) (.seq (.fZ U4) .ret)
def Uy:GC:=.seq (.ops (rg f33 0)) Un
def F33:=@eW 33 1 17 f33 Uy [.tmp 2] (fun _ _=>rfl) (by kernel_rfl) (by kernel_rfl) rfl rfl (by decide)
def UU:=pg f34 1 [(0,[]),(1,[]),(2,[]),(3,[]),(4,[]),(5,[]),(6,[]),(7,[]),(8,[]),(9,[]),(10,[]),(11,[])]
def TJ:GC:=.seq (.ops (rg f34 0)) (.seq (.fZ UU) .ret)
def F34:=@eW 34 1 14 f34 TJ [.tmp 2] (fun _ _=>rfl) (by kernel_rfl) (by kernel_rfl) rfl rfl (by decide)
def Ub:GC:=.seq ((.seq (.ops (rg f35 4)) (.cond (.tmp 13) (.seq (.ops (rg f35 5)) .ret) .skip))) (.seq (.ops (rg f35 6)) .ret)
def NC:GC:=.seq ((.seq (.ops (rg f35 2)) (.cond (.tmp 11) (.seq (.ops (rg f35 3)) .ret) .skip))) Ub
def Nr:GC:=.seq (.ops (rg f35 0)) (.seq (.ops (rg f35 1)) NC)
def F35:=@eW 35 1 14 f35 Nr [.tmp 2] (fun _ _=>rfl) (by kernel_rfl) (by kernel_rfl) rfl rfl (by decide)
def Ty:GC:=.cond (.tmp 10) (.seq (.ops (rg f36 3)) .ret) (.seq (.ops (rg f36 4)) (.cond (.tmp 13) (.seq (.ops (rg f36 5)) .ret) .skip))
def OK:GC:=.seq ((.seq (.ops (rg f36 1)) (.block 0 (.seq (.ops (rg f36 2)) Ty)))) (.seq (.ops (rg f36 6)) .ret)
def K_:GC:=.seq (.ops (rg f36 0)) OK
def F36:=@eW 36 1 16 f36 K_ [.tmp 2] (fun _ _=>rfl) (by kernel_rfl) (by kernel_rfl) rfl rfl (by decide)
def T5:GC:=.seq (.ops (rg f37 0)) (.seq (.ops (rg f37 1)) .ret)
def F37:=@eW 37 2 9 f37 T5 [.tmp 4] (fun _ _=>rfl) (by kernel_rfl) (by kernel_rfl) rfl rfl (by decide)
def TD:GC:=.seq (.ops (rg f38 0)) (.seq (.ops (rg f38 1)) .ret)
def F38:=@eW 38 1 6 f38 TD [.tmp 2] (fun _ _=>rfl) (by kernel_rfl) (by kernel_rfl) rfl rfl (by decide)
def Uu:GC:=.seq (.ops (rg f39 0)) (.seq (.ops (rg f39 1)) .ret)
def F39:=@eW 39 1 11 f39 Uu [.tmp 2] (fun _ _=>rfl) (by kernel_rfl) (by kernel_rfl) rfl rfl (by decide)
def U5:GC:=.seq (.ops (rg f42 0)) (.seq (.ops (rg f42 1)) (.seq (.ops (rg f42 2)) .ret))
def F42:=@eW 42 1 12 f42 U5 [.cell 2 35] (fun _ _=>rfl) (by kernel_rfl) (by kernel_rfl) rfl rfl (by decide)
def Kk:GC:=.cond (.tmp 15) (.seq (.ops (rg f43 3)) (.ops (rg f43 4))) (.seq (.ops (rg f43 5)) (.cond (.tmp 22) (.seq (.ops (rg f43 6)) (.ops (rg f43 7))) .skip))
def Mt:GC:=.seq (.ops (rg f43 1)) (.block 0 (.seq (.ops (rg f43 2)) Kk))
def QE:GC:=.seq (.ops (rg f43 0)) Mt
def F43:=@eW 43 2 27 f43 QE [] (fun _ _=>rfl) (by kernel_rfl) (by kernel_rfl) rfl rfl (by decide)
def UO:GC:=.cond (.tmp 43) (.seq (.ops (rg f44 12)) .ret) (.seq (.ops (rg f44 13)) (.cond (.tmp 48) (.seq (.ops (rg f44 14)) .ret) .skip))
def FA:GC:=.seq (.block 3 (.seq (.ops (rg f44 11)) UO)) (.seq (.ops (rg f44 15)) .ret)
def FU:GC:=.ops (rg f44 10)
def Fx:GC:=.ops (rg f44 9)
def Oq:GC:=.cond (.tmp 17) (.exit 1) (.seq (.ops (rg f44 7)) (.cond (.tmp 20) (.seq (.ops (rg f44 8)) (.exit 1)) .skip))
def Ka:GC:=.seq (.ops (rg f44 4)) (.seq (.ops (rg f44 5)) (.seq (.block 2 (.seq (.ops (rg f44 6)) Oq)) Fx))
def MJ:GC:=.seq (.ops (rg f44 3)) (.seq ((.cond (.tmp 12) .skip (.exit 0))) (.seq (.block 1 Ka) FU))
def Qb:GC:=.seq (.ops (rg f44 1)) (.seq (.skip) (.seq ((.seq (.ops (rg f44 2)) (.block 0 (.loop MJ)))) FA))
def Lp:GC:=.seq (.ops (rg f44 0)) Qb
def F44:=@eW 44 1 53 f44 Lp [.tmp 2,.tmp 3] (fun _ _=>rfl) (by kernel_rfl) (by kernel_rfl) rfl rfl (by decide)
def Uq:=pg f45 1 [(0,[]),(1,[]),(3,[]),(4,[]),(6,[]),(7,[]),(9,[]),(10,[]),(12,[]),(13,[]),(15,[]),(16,[]),(18,[]),(19,[]),(21,[]),(22,[]),(24,[]),(25,[]),(27,[]),(28,[]),(30,[]),(31,[]),(33,[]),(34,[]),(36,[]),(37,[]),(39,[]),(40,[]),(2,[4,7,10,13,16,19,22,25,28,31,34,37,40]),(5,[7,10,13,16,19,22,25,28,31,34,37,40]),(8,[10,13,16,19,22,25,28,31,34,37,40]),(11,[13,16,19,22,25,28,31,34,37,40]),(14,[16,19,22,25,28,31,34,37,40]),(17,[19,22,25,28,31,34,37,40]),(20,[22,25,28,31,34,37,40]),(23,[25,28,31,34,37,40]),(26,[28,31,34,37,40]),(29,[31,34,37,40]),(32,[34,37,40]),(35,[37,40]),(38,[40]),(41,[]),(42,[]),(43,[])]
def Ul:GC:=.seq (.fZ Uq) .ret
def Uv:GC:=.seq (.ops (rg f45 0)) Ul
def F45:=@eW 45 1 46 f45 Uv [.tmp 2] (fun _ _=>rfl) (by kernel_rfl) (by kernel_rfl) rfl rfl (by decide)
def TR:GC:=.seq (.ops (rg f46 0)) (.seq (.ops (rg f46 1)) .ret)
def F46:=@eW 46 0 2 f46 TR [.tmp 0] (fun _ _=>rfl) (by kernel_rfl) (by kernel_rfl) rfl rfl (by decide)
def Lv:GC:=.seq ((.seq (.ops (rg f47 6)) (.cond (.tmp 20) (.ops (rg f47 7)) .skip))) (.ops (rg f47 8))
def PL:GC:=.seq ((.seq (.ops (rg f47 3)) (.cond (.tmp 9) .skip (.exit 0)))) (.seq (.block 1 (.seq (.ops (rg f47 5)) Lv)) (.ops (rg f47 4)))
def OV:GC:=.seq (.ops (rg f47 1)) (.seq ((.seq (.ops (rg f47 2)) (.block 0 (.loop PL)))) (.seq (.ops (rg f47 9)) .ret))
def Nq:GC:=.seq (.ops (rg f47 0)) OV
def F47:=@eW 47 1 30 f47 Nq [.tmp 2] (fun _ _=>rfl) (by kernel_rfl) (by kernel_rfl) rfl rfl (by decide)
def Ts:=pg f48 9 [(0,[]),(1,[]),(2,[]),(3,[]),(4,[]),(5,[])]
def Pc:GC:=.seq (.block 1 (.seq (.ops (rg f48 6)) (.cond (.tmp 16) (.seq (.ops (rg f48 7)) (.ops (rg f48 8))) .skip))) (.ops (rg f48 5))
def QA:GC:=.block 0 (.loop (.seq ((.seq (.ops (rg f48 4)) (.cond (.tmp 10) .skip (.exit 0)))) Pc))
def Nj:GC:=.seq (.ops (rg f48 1)) (.seq (.ops (rg f48 2)) (.seq ((.seq (.ops (rg f48 3)) QA)) (.seq (.fZ Ts) .ret)))
def Le:GC:=.seq (.ops (rg f48 0)) Nj
def F48:=@eW 48 1 30 f48 Le [.tmp 2,.tmp 3] (fun _ _=>rfl) (by kernel_rfl) (by kernel_rfl) rfl rfl (by decide)
def Ll:GC:=.seq (.ops (rg f49 14)) .ret
def K7:GC:=.ops (rg f49 4)
def Jy:GC:=.ops (rg f49 13)
def UE:=pg f49 12 [(0,[]),(1,[]),(2,[]),(3,[]),(4,[]),(5,[]),(7,[]),(8,[]),(9,[]),(10,[]),(11,[]),(6,[10]),(12,[]),(13,[]),(14,[]),(15,[]),(16,[])]
def MF:GC:=.seq ((.seq (.ops (rg f49 10)) (.cond (.tmp 40) .skip (.exit 2)))) (.seq (.block 3 (.fZ UE)) (.ops (rg f49 11)))
def DZ:GC:=.seq (.ops (rg f49 8)) (.seq (.ops (rg f49 9)) (.block 2 (.loop MF)))
def P6:GC:=.seq ((.seq (.ops (rg f49 7)) (.cond (.tmp 29) DZ .skip))) Jy
def L1:GC:=.seq ((.seq (.ops (rg f49 3)) (.cond (.tmp 12) .skip (.exit 0)))) (.seq (.block 1 (.seq (.ops (rg f49 5)) (.seq (.ops (rg f49 6)) P6))) K7)
def OF:GC:=.seq (.ops (rg f49 0)) (.seq (.ops (rg f49 1)) (.seq ((.seq (.ops (rg f49 2)) (.block 0 (.loop L1)))) Ll))
def F49:=@eW 49 1 64 f49 OF [.tmp 2] (fun _ _=>rfl) (by kernel_rfl) (by kernel_rfl) rfl rfl (by decide)
def TV:=pg f50 3 [(0,[]),(1,[]),(5,[]),(6,[]),(10,[]),(11,[]),(2,[6,11]),(3,[]),(4,[]),(7,[11]),(8,[]),(9,[]),(12,[]),(13,[]),(14,[])]
def T3:GC:=.seq ((.seq (.ops (rg f50 1)) (.cond (.tmp 5) (.seq (.ops (rg f50 2)) .ret) .skip))) (.seq (.fZ TV) .ret)
def Ux:GC:=.seq (.ops (rg f50 0)) T3
def F50:=@eW 50 1 20 f50 Ux [.tmp 2] (fun _ _=>rfl) (by kernel_rfl) (by kernel_rfl) rfl rfl (by decide)
def OW:GC:=.seq (.block 1 (.seq (.ops (rg f51 6)) (.cond (.tmp 21) (.seq (.ops (rg f51 7)) (.ops (rg f51 8))) .skip))) (.ops (rg f51 5))
def Ls:GC:=.seq (.ops (rg f51 3)) (.block 0 (.loop (.seq ((.seq (.ops (rg f51 4)) (.cond (.tmp 9) .skip (.exit 0)))) OW)))
def Pe:GC:=.seq (.ops (rg f51 1)) (.seq (.ops (rg f51 2)) (.seq (Ls) (.seq (.ops (rg f51 9)) .ret)))
def Jz:GC:=.seq (.ops (rg f51 0)) Pe
def F51:=@eW 51 1 32 f51 Jz [.tmp 2] (fun _ _=>rfl) (by kernel_rfl) (by kernel_rfl) rfl rfl (by decide)
def T1:GC:=.seq ((.seq (.ops (rg f52 16)) (.cond (.tmp 67) (.ops (rg f52 17)) .skip))) (.seq (.ops (rg f52 18)) .ret)
def OU:GC:=.seq ((.seq (.ops (rg f52 13)) (.cond (.tmp 63) (.seq (.ops (rg f52 0)) .ret) .skip))) (.seq (.ops (rg f52 15)) T1)
def Jt:GC:=.seq ((.seq (.ops (rg f52 10)) (.cond (.tmp 45) (.seq (.ops (rg f52 0)) .ret) .skip))) (.ops (rg f52 12))
def KO:GC:=.seq ((.seq (.ops (rg f52 8)) (.cond (.tmp 29) .skip (.exit 0)))) (.seq (.block 1 Jt) (.ops (rg f52 9)))
def Ew:GC:=.seq ((.seq (.ops (rg f52 4)) (.cond (.tmp 24) (.seq (.ops (rg f52 0)) .ret) .skip))) (.seq (.ops (rg f52 6)) (.seq ((.seq (.ops (rg f52 7)) (.block 0 (.loop KO)))) OU))
def MO:GC:=.seq (.ops (rg f52 1)) (.seq ((.seq (.ops (rg f52 2)) (.cond (.tmp 15) (.ops (rg f52 3)) .skip))) Ew)
def Lu:GC:=.seq (.ops (rg f52 0)) MO
def F52:=@eW 52 1 75 f52 Lu [.tmp 2,.tmp 3] (fun _ _=>rfl) (by kernel_rfl) (by kernel_rfl) rfl rfl (by decide)
def Nw:GC:=.seq (.ops (rg f53 30)) .ret
def P9:GC:=.cond (.tmp 66) (.ops (rg f53 27)) (.seq (.ops (rg f53 28)) (.cond (.tmp 70) (.ops (rg f53 29)) .skip))
def Mu:GC:=.seq (.ops (rg f53 24)) (.cond (.tmp 62) (.ops (rg f53 25)) (.seq (.ops (rg f53 26)) P9))
def Ng:GC:=.cond (.tmp 53) (.ops (rg f53 21)) (.seq (.ops (rg f53 22)) (.cond (.tmp 58) (.ops (rg f53 23)) Mu))
def Kh:GC:=.seq (.ops (rg f53 18)) (.cond (.tmp 48) (.ops (rg f53 19)) (.seq (.ops (rg f53 20)) Ng))
def Ny:GC:=.cond (.tmp 38) (.ops (rg f53 15)) (.seq (.ops (rg f53 16)) (.cond (.tmp 43) (.ops (rg f53 17)) Kh))
def Lf:GC:=.seq (.ops (rg f53 12)) (.cond (.tmp 33) (.ops (rg f53 13)) (.seq (.ops (rg f53 14)) Ny))
def JU:GC:=.cond (.tmp 23) (.ops (rg f53 9)) (.seq (.ops (rg f53 10)) (.cond (.tmp 28) (.ops (rg f53 11)) Lf))
def OJ:GC:=.cond (.tmp 13) (.ops (rg f53 5)) (.seq (.ops (rg f53 6)) (.cond (.tmp 18) (.ops (rg f53 7)) (.seq (.ops (rg f53 8)) JU)))
def MB:GC:=.block 0 (.seq (.ops (rg f53 2)) (.cond (.tmp 8) (.ops (rg f53 3)) (.seq (.ops (rg f53 4)) OJ)))
def MG:GC:=.seq (.ops (rg f53 0)) (.seq ((.seq (.ops (rg f53 1)) MB)) Nw)
def F53:=@eW 53 3 75 f53 MG [.cell 6 25] (fun _ _=>rfl) (by kernel_rfl) (by kernel_rfl) rfl rfl (by decide)
def Tr:GC:=.seq ((.seq (.ops (rg f54 14)) (.cond (.tmp 52) (.seq (.ops (rg f54 15)) .ret) .skip))) (.seq (.ops (rg f54 16)) .ret)
def Nz:GC:=.seq ((.seq (.ops (rg f54 12)) (.cond (.tmp 49) (.seq (.ops (rg f54 9)) .ret) .skip))) Tr
def Qz:GC:=.seq ((.seq (.ops (rg f54 8)) (.cond (.tmp 34) (.seq (.ops (rg f54 9)) .ret) .skip))) (.seq (.ops (rg f54 10)) (.ops (rg f54 11)))
def LI:GC:=.seq ((.seq (.ops (rg f54 6)) (.cond (.tmp 18) (.exit 1) .skip))) (.seq (.ops (rg f54 7)) Qz)
def L7:GC:=.seq ((.seq (.ops (rg f54 4)) (.cond (.tmp 12) .skip (.exit 0)))) (.seq (.block 1 LI) (.ops (rg f54 5)))
def P3:GC:=.seq (.ops (rg f54 1)) (.seq (.ops (rg f54 2)) (.seq ((.seq (.ops (rg f54 3)) (.block 0 (.loop L7)))) Nz))
def Ml:GC:=.seq (.ops (rg f54 0)) P3
def F54:=@eW 54 1 54 f54 Ml [.tmp 2,.tmp 3] (fun _ _=>rfl) (by kernel_rfl) (by kernel_rfl) rfl rfl (by decide)
def QP:GC:=.seq ((.seq (.ops (rg f55 13)) (.cond (.tmp 72) (.seq (.ops (rg f55 0)) .ret) .skip))) (.ops (rg f55 15))
def OD:GC:=.seq ((.seq (.ops (rg f55 8)) (.cond (.tmp 41) (.seq (.ops (rg f55 0)) .ret) .skip))) (.seq (.ops (rg f55 10)) (.seq (.ops (rg f55 11)) (.seq (.ops (rg f55 12)) QP)))
def OY:GC:=.seq ((.seq (.ops (rg f55 5)) (.cond (.tmp 23) (.seq (.ops (rg f55 6)) (.exit 1)) .skip))) (.seq (.ops (rg f55 7)) OD)
def PJ:GC:=.seq ((.seq (.ops (rg f55 3)) (.cond (.tmp 16) .skip (.exit 0)))) (.seq (.block 1 OY) (.ops (rg f55 4)))
def M_:GC:=.seq (.ops (rg f55 1)) (.seq ((.seq (.ops (rg f55 2)) (.block 0 (.loop PJ)))) (.seq (.ops (rg f55 16)) .ret))
def MT:GC:=.seq (.ops (rg f55 0)) M_
def F55:=@eW 55 1 81 f55 MT [.tmp 2,.tmp 3] (fun _ _=>rfl) (by kernel_rfl) (by kernel_rfl) rfl rfl (by decide)
def UQ:GC:=.seq (.ops (rg f57 0)) (.seq (.ops (rg f57 1)) .ret)
def F57:=@eW 57 1 24 f57 UQ [.tmp 2] (fun _ _=>rfl) (by kernel_rfl) (by kernel_rfl) rfl rfl (by decide)
def T6:GC:=.seq (.ops (rg f58 0)) (.seq (.ops (rg f58 1)) .ret)
def F58:=@eW 58 1 12 f58 T6 [.tmp 2] (fun _ _=>rfl) (by kernel_rfl) (by kernel_rfl) rfl rfl (by decide)
def TS:=pg f59 1 [(0,[]),(1,[]),(2,[]),(3,[]),(4,[]),(5,[]),(6,[]),(7,[]),(8,[]),(9,[]),(10,[]),(11,[]),(12,[]),(13,[]),(14,[]),(15,[]),(16,[]),(17,[]),(18,[]),(19,[]),(20,[]),(21,[]),(22,[]),(23,[]),(24,[]),(25,[]),(26,[]),(27,[]),(28,[]),(29,[]),(30,[]),(31,[]),(32,[]),(33,[]),(34,[]),(35,[]),(36,[]),(37,[]),(38,[]),(39,[]),(40,[]),(41,[]),(42,[]),(43,[]),(44,[]),(45,[]),(46,[]),(47,[]),(48,[]),(49,[]),(50,[]),(51,[]),(52,[]),(53,[]),(54,[]),(55,[]),(56,[]),(57,[]),(58,[]),(59,[]),(60,[]),(61,[]),(62,[]),(63,[]),(64,[]),(65,[]),(66,[]),(67,[]),(68,[]),(69,[]),(70,[]),(71,[])]
def Uh:GC:=.seq (.ops (rg f59 0)) (.seq (.fZ TS) .ret)
def F59:=@eW 59 1 74 f59 Uh [.cell 2 101] (fun _ _=>rfl) (by kernel_rfl) (by kernel_rfl) rfl rfl (by decide)
def Tw:GC:=.seq (.ops (rg f66 0)) (.seq (.ops (rg f66 1)) .ret)
def F66:=@eW 66 1 5 f66 Tw [.tmp 2] (fun _ _=>rfl) (by kernel_rfl) (by kernel_rfl) rfl rfl (by decide)
def UD:GC:=.seq (.ops (rg f67 0)) (.seq (.ops (rg f67 1)) .ret)
def F67:=@eW 67 2 8 f67 UD [.tmp 4] (fun _ _=>rfl) (by kernel_rfl) (by kernel_rfl) rfl rfl (by decide)
def UN:=pg f68 8 [(0,[]),(1,[]),(2,[]),(3,[]),(5,[]),(6,[]),(7,[]),(9,[]),(10,[]),(11,[]),(13,[]),(14,[]),(16,[]),(17,[]),(19,[]),(20,[]),(21,[]),(22,[]),(25,[])]
def Up:=pg f68 8 [(4,[6,10,13,16,20]),(8,[2,10,13,16,20]),(12,[2,6,13,16,20]),(15,[2,6,10,16,20]),(18,[2,6,10,20]),(23,[2,6,10,13,16]),(24,[]),(26,[]),(27,[])]
def XD:List Op:=[.insert 148 (.tmp 41) (.const (.int .i32 97)) (.tmp 44),.insert 148 (.tmp 41) (.const (.int .i32 98)) (.tmp 47),.insert 148 (.tmp 41) (.const (.int .i32 99)) (.tmp 50),.insert 148 (.tmp 41) (.const (.int .i32 110)) (.tmp 52),.insert 148 (.tmp 41) (.const (.int .i32 100)) (.tmp 54),.insert 148 (.tmp 41) (.const (.int .i32 107)) (.tmp 58)]
def Pf:GC:=.seq ((.cond (.tmp 39) .skip (.exit 0))) (.block 1 (.seq (.ops (rg f68 7)) (.seq (.wC UN Up XD) (.ops (rg f68 9)))))
def E_:GC:=.seq ((.seq (.ops (rg f68 5)) (.block 0 (.loop (.seq (.ops (rg f68 6)) Pf))))) (.seq (.ops (rg f68 10)) .ret)
def K9:=pg f68 3 [(0,[]),(1,[]),(2,[]),(3,[]),(4,[]),(6,[]),(5,[6]),(7,[]),(8,[])]
def Aw:GC:=.seq (.ops (rg f68 2)) (.seq ((.seq (.fZ K9) (.cond (.tmp 35) (.seq (.ops (rg f68 0)) .ret) .skip))) E_)
def Kz:GC:=.seq (.ops (rg f68 0)) (.seq (.ops (rg f68 1)) Aw)
def F68:=@eW 68 2 68 f68 Kz [.tmp 4,.tmp 5] (fun _ _=>rfl) (by kernel_rfl) (by kernel_rfl) rfl rfl (by decide)
def U1:=pg f69 5 [(0,[]),(1,[]),(2,[]),(3,[]),(4,[]),(5,[]),(6,[]),(7,[]),(8,[]),(9,[])]
def Km:GC:=.seq ((.cond (.tmp 11) .skip (.exit 0))) (.seq (.block 1 (.seq (.ops (rg f69 4)) (.fZ U1))) (.ops (rg f69 6)))
def PF:GC:=.seq ((.seq (.ops (rg f69 2)) (.block 0 (.loop (.seq (.ops (rg f69 3)) Km))))) (.seq (.ops (rg f69 7)) .ret)
def Kt:GC:=.seq (.ops (rg f69 0)) (.seq (.ops (rg f69 1)) PF)
def F69:=@eW 69 1 26 f69 Kt [.tmp 2] (fun _ _=>rfl) (by kernel_rfl) (by kernel_rfl) rfl rfl (by decide)
def UB:GC:=.seq (.block 3 (.seq (.ops (rg f70 11)) (.cond (.tmp 41) (.seq (.ops (rg f70 12)) .ret) .skip))) (.ops (rg f70 10))
def N_:GC:=.seq (.ops (rg f70 8)) (.block 2 (.loop (.seq ((.seq (.ops (rg f70 9)) (.cond (.tmp 32) .skip (.exit 2)))) UB)))
def OB:GC:=.seq ((.seq (.ops (rg f70 6)) (.cond (.tmp 27) (.seq (.ops (rg f70 7)) .ret) .skip))) (.seq (N_) (.seq (.ops (rg f70 13)) .ret))
def OE:GC:=.seq (.block 1 (.seq (.ops (rg f70 4)) (.cond (.tmp 13) (.seq (.ops (rg f70 5)) .ret) .skip))) (.ops (rg f70 3))
def Li:GC:=.seq (.ops (rg f70 1)) (.block 0 (.loop (.seq ((.seq (.ops (rg f70 2)) (.cond (.tmp 7) .skip (.exit 0)))) OE)))
def K2:GC:=.seq (.ops (rg f70 0)) (.seq (Li) OB)
def F70:=@eW 70 1 43 f70 K2 [.tmp 2,.tmp 3] (fun _ _=>rfl) (by kernel_rfl) (by kernel_rfl) rfl rfl (by decide)
def TP:GC:=.seq ((.seq (.ops (rg f71 11)) (.cond (.tmp 31) (.seq (.ops (rg f71 12)) .ret) .skip))) (.seq (.ops (rg f71 13)) .ret)
def Lg:GC:=.seq (.ops (rg f71 7)) (.seq (.ops (rg f71 8)) (.cond (.tmp 26) (.seq (.ops (rg f71 9)) .ret) .skip))
def NK:GC:=.seq (.ops (rg f71 3)) (.seq (.ops (rg f71 4)) (.cond (.tmp 14) (.seq (.ops (rg f71 5)) .ret) .skip))
def O_:GC:=.seq (.ops (rg f71 2)) (.seq ((.cond (.tmp 10) .skip (.exit 0))) (.seq (.block 1 NK) (.ops (rg f71 6))))
def KK:GC:=.seq ((.seq (.ops (rg f71 1)) (.block 0 (.loop O_)))) (.seq (Lg) (.seq (.ops (rg f71 10)) TP))
def MM:GC:=.seq (.ops (rg f71 0)) KK
def F71:=@eW 71 1 33 f71 MM [.tmp 2,.tmp 3] (fun _ _=>rfl) (by kernel_rfl) (by kernel_rfl) rfl rfl (by decide)
def Qf:GC:=.seq (.ops (rg f72 3)) (.seq (.ops (rg f72 4)) (.cond (.tmp 16) (.seq (.ops (rg f72 5)) .ret) .skip))
def MX:GC:=.seq (.ops (rg f72 2)) (.seq ((.cond (.tmp 9) .skip (.exit 0))) (.seq (.block 1 Qf) (.ops (rg f72 6))))
def PX:GC:=.seq (.ops (rg f72 0)) (.seq ((.seq (.ops (rg f72 1)) (.block 0 (.loop MX)))) (.seq (.ops (rg f72 7)) .ret))
def F72:=@eW 72 2 19 f72 PX [.tmp 4] (fun _ _=>rfl) (by kernel_rfl) (by kernel_rfl) rfl rfl (by decide)
def Uk:GC:=.seq ((.seq (.ops (rg f75 1)) (.cond (.tmp 9) (.seq (.ops (rg f75 0)) .ret) .skip))) (.seq (.ops (rg f75 3)) (.seq (.ops (rg f75 4)) .ret))
def LY:GC:=.seq (.ops (rg f75 0)) Uk
def F75:=@eW 75 2 19 f75 LY [.tmp 3] (fun _ _=>rfl) (by kernel_rfl) (by kernel_rfl) rfl rfl (by decide)
def Tt:GC:=.seq ((.seq (.ops (rg f77 2)) (.cond (.tmp 18) (.seq (.ops (rg f77 3)) .ret) .skip))) (.seq (.ops (rg f77 4)) .ret)
def Qk:GC:=.seq (.ops (rg f77 0)) (.seq (.ops (rg f77 1)) Tt)
def F77:=@eW 77 3 26 f77 Qk [.tmp 6,.tmp 7] (fun _ _=>rfl) (by kernel_rfl) (by kernel_rfl) rfl rfl (by decide)
def TZ:=pg f78 4 [(0,[]),(1,[]),(2,[]),(3,[]),(7,[]),(8,[]),(9,[]),(10,[]),(4,[]),(5,[]),(6,[]),(11,[]),(12,[]),(13,[]),(14,[]),(15,[]),(16,[]),(17,[])]
def OO:GC:=.seq ((.seq (.ops (rg f78 2)) (.cond (.tmp 8) .skip (.exit 0)))) (.seq (.block 1 (.fZ TZ)) (.ops (rg f78 3)))
def Pq:GC:=.seq (.ops (rg f78 0)) (.seq ((.seq (.ops (rg f78 1)) (.block 0 (.loop OO)))) (.seq (.ops (rg f78 5)) .ret))
def F78:=@eW 78 1 29 f78 Pq [.tmp 2] (fun _ _=>rfl) (by kernel_rfl) (by kernel_rfl) rfl rfl (by decide)
def Jv:GC:=.seq ((.cond (.tmp 8) .skip (.exit 0))) (.seq (.block 1 (.seq (.ops (rg f79 3)) (.ops (rg f79 4)))) (.ops (rg f79 5)))
def PS:GC:=.seq ((.seq (.ops (rg f79 1)) (.block 0 (.loop (.seq (.ops (rg f79 2)) Jv))))) (.seq (.ops (rg f79 6)) .ret)
def Nf:GC:=.seq (.ops (rg f79 0)) PS
def F79:=@eW 79 1 24 f79 Nf [.tmp 2] (fun _ _=>rfl) (by kernel_rfl) (by kernel_rfl) rfl rfl (by decide)
def uV:List GO:=[⟨none,some 24,.extract (.tmp 23) 0⟩]
def JT:GC:=.cond (.tmp 63) (.ops (rg f80 19)) (.seq (.ops (rg f80 20)) (.cond (.tmp 68) (.ops (rg f80 21)) (.ops (rg f80 15))))
def L8:GC:=.seq (.ops (rg f80 16)) (.cond (.tmp 58) (.ops (rg f80 17)) (.seq (.ops (rg f80 18)) JT))
def KV:GC:=.seq (.ops (rg f80 12)) (.seq (.ops (rg f80 13)) (.seq (.ops (rg f80 14)) (.block 4 L8)))
def AU:GC:=.seq (.ops (rg f80 11)) (.seq ((.cond (.tmp 43) .skip (.exit 2))) (.block 3 KV))
def Ph:GC:=.seq (.ops (rg f80 10)) (.block 2 (.loop AU))
def Mk:GC:=.seq ((.seq (.ops (rg f80 8)) (.cond (.tmp 37) (.exit 1) .skip))) (.seq (.ops (rg f80 9)) Ph)
def Bi:GC:=.seq ((.cond (.tmp 24) .skip (.exit 0))) (.block 1 (.seq (.ops (rg f80 6)) (.seq (.ops (rg f80 7)) Mk)))
def Qs:GC:=.wR 22 (some 23) uV Bi [23,24,25,26,28,29,27,30,31,32,33,34,35,36,37,38,39,40,41,42,43,44,45,46,47,48,49,50,59,60,61,62,64,65,66,67,69,70,71,72,51,52,53,54,55,56,57,58,59,50,10,49,48,47,46,9,8,45,44,43,42,41,40,39,38,37,36,35,34,33,7,6,5,32,31,30,27,29,28,4,26,25,24,23]
def KR:GC:=.seq ((.seq (.ops (rg f80 4)) (.block 0 Qs))) (.seq (.ops (rg f80 22)) .ret)
def Qi:GC:=.seq ((.seq (.ops (rg f80 2)) (.cond (.tmp 15) (.seq (.ops (rg f80 3)) .ret) .skip))) KR
def Nb:GC:=.seq (.ops (rg f80 0)) (.seq (.ops (rg f80 1)) Qi)
def F80:=@eW 80 1 74 f80 Nb [.cell 2 125] (fun _ _=>rfl) (by kernel_rfl) (by kernel_rfl) rfl rfl (by decide)
def UY:GC:=.seq ((.seq (.ops (rg f81 1)) (.cond (.tmp 4) (.seq (.ops (rg f81 2)) .ret) .skip))) (.seq (.ops (rg f81 3)) .ret)
def T9:GC:=.seq (.ops (rg f81 0)) UY
def F81:=@eW 81 1 15 f81 T9 [.tmp 2] (fun _ _=>rfl) (by kernel_rfl) (by kernel_rfl) rfl rfl (by decide)
def U3:=pg f82 3 [(0,[]),(1,[]),(3,[]),(4,[]),(5,[]),(6,[]),(7,[]),(8,[]),(2,[8]),(9,[]),(10,[])]
def Ui:GC:=.seq ((.seq (.ops (rg f82 1)) (.cond (.tmp 4) (.seq (.ops (rg f82 2)) .ret) .skip))) (.seq (.fZ U3) .ret)
def UL:GC:=.seq (.ops (rg f82 0)) Ui
def F82:=@eW 82 1 20 f82 UL [.tmp 2] (fun _ _=>rfl) (by kernel_rfl) (by kernel_rfl) rfl rfl (by decide)
def U2:GC:=.seq ((.seq (.ops (rg f83 6)) (.cond (.tmp 62) (.seq (.ops (rg f83 7)) .ret) .skip))) (.seq (.ops (rg f83 8)) .ret)
def UH:=pg f83 5 [(0,[]),(1,[]),(2,[]),(3,[]),(4,[]),(5,[]),(6,[]),(7,[]),(8,[]),(9,[]),(10,[]),(11,[]),(12,[]),(13,[]),(14,[]),(15,[]),(16,[]),(17,[]),(18,[]),(19,[]),(20,[]),(21,[]),(22,[]),(23,[]),(24,[]),(25,[])]
def O9:GC:=.seq ((.seq (.ops (rg f83 3)) (.cond (.tmp 34) (.seq (.ops (rg f83 4)) .ret) .skip))) (.seq (.fZ UH) U2)
def Md:GC:=.seq ((.seq (.ops (rg f83 1)) (.cond (.tmp 19) (.seq (.ops (rg f83 2)) .ret) .skip))) O9
def Qu:GC:=.seq (.ops (rg f83 0)) Md
def F83:=@eW 83 2 65 f83 Qu [.cell 4 125,.tmp 5] (fun _ _=>rfl) (by kernel_rfl) (by kernel_rfl) rfl rfl (by decide)
def Ur:=pg f84 6 [(0,[]),(1,[]),(2,[]),(6,[]),(3,[6]),(4,[]),(5,[]),(7,[]),(8,[]),(9,[]),(10,[])]
def QF:=pg f84 16 [(0,[]),(1,[]),(2,[]),(6,[]),(3,[6]),(4,[]),(5,[]),(7,[]),(8,[]),(9,[]),(10,[])]
def KC:GC:=.cond (.tmp 98) (.seq (.ops (rg f84 18)) .ret) (.seq (.ops (rg f84 19)) (.cond (.tmp 116) (.seq (.ops (rg f84 20)) .ret) .skip))
def KX:GC:=.seq (.ops (rg f84 15)) (.cond (.tmp 85) (.seq (.fZ QF) .ret) (.seq (.ops (rg f84 17)) KC))
def Pw:GC:=.cond (.tmp 62) (.seq (.ops (rg f84 12)) .ret) (.seq (.ops (rg f84 13)) (.cond (.tmp 73) (.seq (.ops (rg f84 14)) .ret) KX))
def Od:GC:=.seq (.ops (rg f84 9)) (.cond (.tmp 51) (.seq (.ops (rg f84 10)) .ret) (.seq (.ops (rg f84 11)) Pw))
def Qd:GC:=.cond (.tmp 27) (.seq (.fZ Ur) .ret) (.seq (.ops (rg f84 7)) (.cond (.tmp 40) (.seq (.ops (rg f84 8)) .ret) Od))
def N3:GC:=.seq (.ops (rg f84 3)) (.cond (.tmp 21) (.seq (.ops (rg f84 4)) .ret) (.seq (.ops (rg f84 5)) Qd))
def Eh:GC:=.seq (.block 0 N3) (.seq (.ops (rg f84 21)) .ret)
def L6:GC:=.seq (.ops (rg f84 0)) (.seq (.ops (rg f84 1)) (.seq (.ops (rg f84 2)) Eh))
def F84:=@eW 84 1 130 f84 L6 [.tmp 2] (fun _ _=>rfl) (by kernel_rfl) (by kernel_rfl) rfl rfl (by decide)
def TK:GC:=.seq ((.seq (.ops (rg f85 1)) (.cond (.tmp 4) (.seq (.ops (rg f85 2)) .ret) .skip))) (.seq (.ops (rg f85 3)) .ret)
def TF:GC:=.seq (.ops (rg f85 0)) TK
def F85:=@eW 85 1 10 f85 TF [.tmp 2] (fun _ _=>rfl) (by kernel_rfl) (by kernel_rfl) rfl rfl (by decide)
def TX:=pg f86 34 [(0,[]),(1,[]),(2,[]),(3,[]),(4,[]),(5,[]),(6,[]),(7,[]),(8,[]),(9,[]),(10,[]),(11,[]),(12,[]),(13,[]),(14,[]),(15,[]),(16,[]),(17,[]),(18,[]),(19,[]),(20,[]),(21,[]),(22,[])]
def T0:GC:=.seq (.block 5 (.seq (.ops (rg f86 33)) (.cond (.tmp 234) (.seq (.fZ TX) .ret) .skip))) (.ops (rg f86 32))
def LM:GC:=.block 4 (.loop (.seq ((.seq (.ops (rg f86 31)) (.cond (.tmp 218) .skip (.exit 4)))) T0))
def E4:GC:=.seq ((.seq (.ops (rg f86 30)) LM)) (.seq (.ops (rg f86 0)) .ret)
def Pg:GC:=.seq (.ops (rg f86 27)) (.seq ((.seq (.ops (rg f86 28)) (.cond (.tmp 206) (.ops (rg f86 29)) .skip))) E4)
def Qe:GC:=.seq ((.seq (.ops (rg f86 24)) (.cond (.tmp 133) (.seq (.ops (rg f86 0)) .ret) .skip))) (.seq (.ops (rg f86 26)) Pg)
def Ei:GC:=.seq (.ops (rg f86 22)) (.seq (.ops (rg f86 23)) Qe)
def M6:GC:=.seq ((.seq (.ops (rg f86 19)) (.cond (.tmp 104) (.seq (.ops (rg f86 0)) .ret) .skip))) (.ops (rg f86 21))
def PO:GC:=.seq ((.seq (.ops (rg f86 16)) (.cond (.tmp 92) .skip (.exit 2)))) (.seq (.block 3 (.seq (.ops (rg f86 18)) M6)) (.ops (rg f86 17)))
def Pt:GC:=.seq ((.seq (.ops (rg f86 13)) (.cond (.tmp 88) (.seq (.ops (rg f86 0)) .ret) .skip))) (.seq ((.seq (.ops (rg f86 15)) (.block 2 (.loop PO)))) Ei)
def vQ:GC:=.seq (.ops (rg f86 12)) Pt
def Qc:GC:=.seq ((.seq (.ops (rg f86 8)) (.cond (.tmp 76) (.seq (.ops (rg f86 0)) .ret) .skip))) (.ops (rg f86 10))
def J6:=pg f86 7 [(0,[]),(1,[]),(2,[]),(3,[]),(4,[]),(6,[]),(7,[]),(8,[]),(9,[]),(10,[]),(11,[]),(5,[8]),(12,[]),(13,[]),(14,[])]
def QC:GC:=.seq ((.seq (.ops (rg f86 5)) (.cond (.tmp 55) .skip (.exit 0)))) (.seq (.block 1 (.seq (.fZ J6) Qc)) (.ops (rg f86 6)))
def Fs:GC:=.seq (.ops (rg f86 3)) (.seq ((.seq (.ops (rg f86 4)) (.block 0 (.loop QC)))) (.seq (.ops (rg f86 11)) .ret))
def F2:GC:=.seq (.ops (rg f86 1)) (.seq ((.seq (.ops (rg f86 2)) (.cond (.tmp 49) Fs .skip))) vQ)
def G3:GC:=.seq (.ops (rg f86 0)) F2
def F86:=@eW 86 1 256 f86 G3 [.tmp 2,.tmp 3] (fun _ _=>rfl) (by kernel_rfl) (by kernel_rfl) rfl rfl (by decide)
def UK:GC:=.seq (.ops (rg f91 0)) (.seq (.ops (rg f91 1)) .ret)
def F91:=@eW 91 1 5 f91 UK [.tmp 2] (fun _ _=>rfl) (by kernel_rfl) (by kernel_rfl) rfl rfl (by decide)
def LX:GC:=.seq (.ops (rg f92 4)) (.seq (.ops (rg f92 5)) (.seq (.ops (rg f92 6)) (.seq (.ops (rg f92 7)) .ret)))
def LU:GC:=.seq ((.seq (.ops (rg f92 2)) (.cond (.tmp 12) (.seq (.ops (rg f92 3)) .ret) .skip))) LX
def NZ:GC:=.seq ((.seq (.ops (rg f92 1)) (.cond (.tmp 10) LU .skip))) (.seq (.ops (rg f92 8)) (.seq (.ops (rg f92 9)) .ret))
def KI:GC:=.seq (.ops (rg f92 0)) NZ
def F92:=@eW 92 2 32 f92 KI [.tmp 4] (fun _ _=>rfl) (by kernel_rfl) (by kernel_rfl) rfl rfl (by decide)
def U7:GC:=.seq (.ops (rg f93 13)) (.seq (.ops (rg f93 14)) (.cond (.tmp 81) (.seq (.ops (rg f93 15)) .ret) .skip))
def J4:GC:=.seq (.ops (rg f93 11)) (.seq ((.cond (.tmp 68) .skip (.exit 1))) (.block 2 (.seq (.ops (rg f93 12)) U7)))
def EP:GC:=.seq ((.seq (.ops (rg f93 10)) (.block 1 (.loop J4)))) (.seq (.ops (rg f93 16)) .ret)
def MU:GC:=.seq ((.seq (.ops (rg f93 8)) (.cond (.tmp 63) (.seq (.ops (rg f93 9)) .ret) .skip))) EP
def EY:GC:=.seq (.ops (rg f93 7)) MU
def M3:=pg f93 6 [(0,[]),(1,[]),(2,[]),(3,[]),(4,[]),(5,[]),(6,[]),(7,[]),(8,[]),(9,[]),(10,[]),(11,[]),(12,[]),(13,[]),(14,[])]
def Fb:GC:=.seq (.ops (rg f93 5)) (.seq (.fZ M3) EY)
def KD:GC:=.cond (.tmp 14) (.seq (.ops (rg f93 2)) .ret) (.seq (.ops (rg f93 3)) (.cond (.tmp 27) (.seq (.ops (rg f93 4)) .ret) .skip))
def L3:GC:=.seq (.ops (rg f93 0)) (.seq (.block 0 (.seq (.ops (rg f93 1)) KD)) Fb)
def F93:=@eW 93 2 84 f93 L3 [.cell 4 125,.tmp 5] (fun _ _=>rfl) (by kernel_rfl) (by kernel_rfl) rfl rfl (by decide)
def Tz:=pg f95 14 [(0,[]),(1,[]),(2,[]),(3,[]),(4,[]),(5,[3]),(6,[]),(7,[])]
def Lz:GC:=.seq ((.seq (.ops (rg f95 12)) (.cond (.tmp 32) .skip (.ops (rg f95 13))))) (.cond (.tmp 32) (.fZ Tz) .skip)
def KN:GC:=.cond (.tmp 22) (.ops (rg f95 9)) (.seq (.ops (rg f95 10)) (.cond (.tmp 27) (.ops (rg f95 11)) Lz))
def NB:GC:=.block 2 (.seq (.ops (rg f95 6)) (.cond (.tmp 17) (.ops (rg f95 7)) (.seq (.ops (rg f95 8)) KN)))
def K0:GC:=.seq ((.cond (.tmp 14) .skip (.exit 0))) (.block 1 (.seq (.ops (rg f95 4)) (.seq (.ops (rg f95 5)) NB)))
def O':GC:=.seq ((.seq (.ops (rg f95 2)) (.block 0 (.loop (.seq (.ops (rg f95 3)) K0))))) (.seq (.ops (rg f95 15)) .ret)
def Og:GC:=.seq (.ops (rg f95 0)) (.seq (.ops (rg f95 1)) O')
def F95:=@eW 95 2 42 f95 Og [.cell 4 125] (fun _ _=>rfl) (by kernel_rfl) (by kernel_rfl) rfl rfl (by decide)
def UM:GC:=.seq ((.seq (.ops (rg f98 12)) (.cond (.tmp 43) (.seq (.ops (rg f98 7)) .ret) .skip))) (.seq (.ops (rg f98 8)) .ret)
def NN:GC:=.seq ((.seq (.ops (rg f98 10)) (.cond (.tmp 40) (.seq (.ops (rg f98 5)) .ret) .skip))) UM
def Mh:GC:=.seq ((.seq (.ops (rg f98 6)) (.cond (.tmp 31) (.seq (.ops (rg f98 7)) .ret) .skip))) (.seq (.ops (rg f98 8)) .ret)
def PI:GC:=.seq ((.seq (.ops (rg f98 4)) (.cond (.tmp 27) (.seq (.ops (rg f98 5)) .ret) .skip))) Mh
def KE:GC:=.seq ((.seq (.ops (rg f98 2)) (.cond (.tmp 18) (.seq (.ops (rg f98 3)) PI) .skip))) (.seq (.ops (rg f98 9)) NN)
def Ms:=pg f98 1 [(1,[]),(5,[]),(0,[]),(2,[]),(3,[]),(4,[3]),(6,[]),(7,[]),(8,[]),(9,[])]
def KM:GC:=.seq (.ops (rg f98 0)) (.seq (.fZ Ms) KE)
def F98:=@eW 98 2 44 f98 KM [.tmp 4] (fun _ _=>rfl) (by kernel_rfl) (by kernel_rfl) rfl rfl (by decide)
def L':GC:=.seq (.ops (rg f99 5)) (.cond (.tmp 17) (.seq (.ops (rg f99 6)) (.seq (.ops (rg f99 7)) .ret)) .skip)
def NY:GC:=.seq (.ops (rg f99 2)) (.cond (.tmp 8) (.seq (.ops (rg f99 3)) (.seq (.ops (rg f99 4)) .ret)) L')
def Ob:GC:=.seq (.ops (rg f99 0)) (.seq ((.seq (.ops (rg f99 1)) (.block 0 NY))) (.seq (.ops (rg f99 8)) .ret))
def F99:=@eW 99 1 27 f99 Ob [.tmp 2] (fun _ _=>rfl) (by kernel_rfl) (by kernel_rfl) rfl rfl (by decide)
def GN:GC:=.seq (.ops (rg f100 3)) (.seq (.ops (rg f100 4)) (.cond (.tmp 16) (.seq (.ops (rg f100 5)) .ret) .skip))
def Hp:GC:=.seq (.ops (rg f100 2)) (.seq ((.cond (.tmp 9) .skip (.exit 0))) (.seq (.block 1 GN) (.ops (rg f100 6))))
def GB:GC:=.seq (.ops (rg f100 0)) (.seq ((.seq (.ops (rg f100 1)) (.block 0 (.loop Hp)))) (.seq (.ops (rg f100 7)) .ret))
def F100:=@eW 100 2 19 f100 GB [.tmp 4] (fun _ _=>rfl) (by kernel_rfl) (by kernel_rfl) rfl rfl (by decide)
def M9:GC:=.seq (.ops (rg f101 0)) (.seq (.ops (rg f101 1)) .ret)
def F101:=@eW 101 1 6 f101 M9 [.tmp 2] (fun _ _=>rfl) (by kernel_rfl) (by kernel_rfl) rfl rfl (by decide)
def Qt:GC:=.seq ((.seq (.ops (rg f107 56)) (.cond (.tmp 169) (.seq (.ops (rg f107 57)) .ret) .skip))) (.seq (.ops (rg f107 58)) .ret)
def Gx:GC:=.seq ((.seq (.ops (rg f107 52)) (.cond (.tmp 159) (.seq (.ops (rg f107 53)) .ret) .skip))) (.ops (rg f107 54))
def Ho:GC:=.seq ((.seq (.ops (rg f107 48)) (.cond (.tmp 141) (.seq (.ops (rg f107 49)) .ret) .skip))) (.seq (.ops (rg f107 50)) (.seq (.ops (rg f107 51)) Gx))
def Gl:GC:=.seq ((.seq (.ops (rg f107 46)) (.cond (.tmp 137) (.seq (.ops (rg f107 47)) .ret) .skip))) Ho
def GQ:GC:=.seq (.ops (rg f107 44)) (.cond (.tmp 121) (.ops (rg f107 45)) (.seq (.ops (rg f107 39)) .ret))
def Hn:GC:=.cond (.tmp 106) (.seq (.ops (rg f107 41)) (.exit 4)) (.seq (.ops (rg f107 42)) (.cond (.tmp 112) (.ops (rg f107 43)) GQ))
def GA:GC:=.seq (.ops (rg f107 37)) (.seq (.ops (rg f107 38)) (.seq (.block 5 (.seq (.ops (rg f107 40)) Hn)) Gl))
def F':GC:=.seq (.ops (rg f107 36)) (.seq ((.cond (.tmp 102) .skip (.exit 3))) (.seq (.block 4 GA) (.ops (rg f107 55))))
def GX:GC:=.seq (.ops (rg f107 34)) (.seq ((.seq (.ops (rg f107 35)) (.block 3 (.loop F')))) Qt)
def Gs:GC:=.cond (.tmp 90) (.ops (rg f107 29)) (.seq (.ops (rg f107 30)) (.cond (.tmp 92) (.ops (rg f107 31)) (.ops (rg f107 27))))
def Gj:GC:=.seq ((.seq (.ops (rg f107 26)) (.block 2 (.seq (.ops (rg f107 28)) Gs)))) (.seq (.ops (rg f107 32)) (.seq (.ops (rg f107 33)) GX))
def G5:GC:=.cond (.tmp 77) (.ops (rg f107 22)) (.seq (.ops (rg f107 23)) (.cond (.tmp 83) (.seq (.ops (rg f107 24)) .ret) .skip))
def N6:GC:=.cond (.tmp 64) (.seq (.ops (rg f107 19)) (.ops (rg f107 20))) (.seq (.ops (rg f107 16)) (.ops (rg f107 11)))
def QQ:GC:=.cond (.tmp 52) (.seq (.ops (rg f107 16)) (.ops (rg f107 17))) (.seq (.ops (rg f107 18)) N6)
def J1:GC:=.cond (.tmp 40) (.seq (.ops (rg f107 13)) (.ops (rg f107 14))) (.seq (.ops (rg f107 15)) QQ)
def Ld:GC:=.seq (.ops (rg f107 9)) (.cond (.tmp 37) (.block 1 (.seq (.ops (rg f107 12)) J1)) .skip)
def Qj:GC:=.seq (.ops (rg f107 7)) (.cond (.tmp 32) (.seq (.ops (rg f107 8)) Ld) (.seq (.ops (rg f107 5)) .ret))
def CS:GC:=.seq (.block 0 (.seq (.ops (rg f107 6)) (.cond (.tmp 25) .skip Qj))) (.seq ((.seq (.ops (rg f107 21)) G5)) (.seq (.ops (rg f107 25)) Gj))
def Cg:GC:=.seq ((.seq (.ops (rg f107 1)) (.cond (.tmp 19) (.seq (.ops (rg f107 2)) .ret) .skip))) (.seq (.ops (rg f107 3)) (.seq (.ops (rg f107 4)) CS))
def Dq:GC:=.seq (.ops (rg f107 0)) Cg
def Ya:=@eW 107 3 172 f107 Dq [.tmp 6,.tmp 7] (fun _ _=>rfl) (by kernel_rfl) (by kernel_rfl) rfl rfl (by decide)
def LD:GC:=.seq ((.seq (.ops (rg f109 1)) (.cond (.tmp 9) (.seq (.ops (rg f109 0)) .ret) .skip))) (.seq (.ops (rg f109 3)) (.seq (.ops (rg f109 4)) .ret))
def GS:GC:=.seq (.ops (rg f109 0)) LD
def F109:=@eW 109 2 19 f109 GS [.tmp 3] (fun _ _=>rfl) (by kernel_rfl) (by kernel_rfl) rfl rfl (by decide)
def Ps:GC:=.seq (.ops (rg f110 0)) (.seq (.ops (rg f110 1)) .ret)
def F110:=@eW 110 0 11 f110 Ps [.tmp 0] (fun _ _=>rfl) (by kernel_rfl) (by kernel_rfl) rfl rfl (by decide)
def KY:GC:=.seq ((.seq (.ops (rg f111 4)) (.cond (.tmp 30) (.seq (.ops (rg f111 5)) .ret) .skip))) (.seq (.ops (rg f111 6)) .ret)
def Gd:GC:=.seq ((.seq (.ops (rg f111 2)) (.cond (.tmp 20) (.seq (.ops (rg f111 3)) .ret) .skip))) KY
def G9:GC:=.seq (.ops (rg f111 0)) (.seq (.ops (rg f111 1)) Gd)
def F111:=@eW 111 1 55 f111 G9 [.tmp 2] (fun _ _=>rfl) (by kernel_rfl) (by kernel_rfl) rfl rfl (by decide)
def Kx:GC:=.seq ((.seq (.ops (rg f112 1)) (.cond (.tmp 4) (.seq (.ops (rg f112 2)) .ret) .skip))) (.seq (.ops (rg f112 3)) .ret)
def Ni:GC:=.seq (.ops (rg f112 0)) Kx
def F112:=@eW 112 1 15 f112 Ni [.tmp 2] (fun _ _=>rfl) (by kernel_rfl) (by kernel_rfl) rfl rfl (by decide)
def NP:GC:=.seq (.ops (rg f113 0)) (.seq (.ops (rg f113 1)) .ret)
def F113:=@eW 113 1 11 f113 NP [.tmp 2] (fun _ _=>rfl) (by kernel_rfl) (by kernel_rfl) rfl rfl (by decide)
def Lk:GC:=.seq (.ops (rg f114 0)) (.seq (.ops (rg f114 1)) .ret)
def F114:=@eW 114 3 21 f114 Lk [.tmp 6] (fun _ _=>rfl) (by kernel_rfl) (by kernel_rfl) rfl rfl (by decide)
def Kw:GC:=.seq ((.seq (.ops (rg f115 2)) (.cond (.tmp 7) (.ops (rg f115 3)) .skip))) (.seq (.ops (rg f115 4)) .ret)
def Hw:GC:=.seq (.ops (rg f115 0)) (.seq (.ops (rg f115 1)) Kw)
def F115:=@eW 115 1 11 f115 Hw [.tmp 2] (fun _ _=>rfl) (by kernel_rfl) (by kernel_rfl) rfl rfl (by decide)
def Hv:GC:=.seq (.ops (rg f116 6)) (.cond (.tmp 21) (.seq (.ops (rg f116 7)) (.ops (rg f116 8))) .skip)
def Hc:GC:=.seq ((.seq (.ops (rg f116 4)) (.cond (.tmp 9) .skip (.exit 0)))) (.seq (.block 1 Hv) (.ops (rg f116 5)))
def Gr:GC:=.seq (.ops (rg f116 2)) (.seq ((.seq (.ops (rg f116 3)) (.block 0 (.loop Hc)))) (.seq (.ops (rg f116 9)) .ret))
def GV:GC:=.seq (.ops (rg f116 0)) (.seq (.ops (rg f116 1)) Gr)
def F116:=@eW 116 1 32 f116 GV [.tmp 2] (fun _ _=>rfl) (by kernel_rfl) (by kernel_rfl) rfl rfl (by decide)
def P_:GC:=.seq (.block 1 (.seq (.ops (rg f117 4)) (.cond (.tmp 12) (.seq (.ops (rg f117 5)) .ret) .skip))) (.ops (rg f117 3))
def Hl:GC:=.block 0 (.loop (.seq ((.seq (.ops (rg f117 2)) (.cond (.tmp 5) .skip (.exit 0)))) P_))
def Gc:GC:=.seq (.ops (rg f117 0)) (.seq ((.seq (.ops (rg f117 1)) Hl)) (.seq (.ops (rg f117 6)) .ret))
def F117:=@eW 117 1 14 f117 Gc [.tmp 2] (fun _ _=>rfl) (by kernel_rfl) (by kernel_rfl) rfl rfl (by decide)
def MZ:GC:=.seq ((.seq (.ops (rg f118 12)) (.cond (.tmp 50) (.ops (rg f118 13)) .skip))) (.seq (.ops (rg f118 14)) .ret)
def Hu:GC:=.seq ((.seq (.ops (rg f118 9)) (.cond (.tmp 40) (.seq (.ops (rg f118 0)) .ret) .skip))) (.ops (rg f118 11))
def F6:GC:=.seq ((.seq (.ops (rg f118 7)) (.cond (.tmp 28) .skip (.exit 0)))) (.seq (.block 1 Hu) (.ops (rg f118 8)))
def Ba:GC:=.seq ((.seq (.ops (rg f118 4)) (.cond (.tmp 23) (.seq (.ops (rg f118 0)) .ret) .skip))) (.seq ((.seq (.ops (rg f118 6)) (.block 0 (.loop F6)))) MZ)
def G1:GC:=.seq (.ops (rg f118 1)) (.seq ((.seq (.ops (rg f118 2)) (.cond (.tmp 14) (.ops (rg f118 3)) .skip))) Ba)
def Gp:GC:=.seq (.ops (rg f118 0)) G1
def F118:=@eW 118 1 58 f118 Gp [.tmp 2,.tmp 3] (fun _ _=>rfl) (by kernel_rfl) (by kernel_rfl) rfl rfl (by decide)
def GJ:GC:=.seq (.ops (rg f121 10)) (.cond (.tmp 34) (.seq (.ops (rg f121 11)) (.seq (.ops (rg f121 12)) .ret)) .skip)
def GM:GC:=.seq (.ops (rg f121 8)) (.seq (.ops (rg f121 9)) (.seq (GJ) (.seq (.ops (rg f121 13)) .ret)))
def G4:GC:=.seq (.ops (rg f121 5)) (.seq ((.seq (.ops (rg f121 6)) (.cond (.tmp 23) (.ops (rg f121 7)) .skip))) GM)
def F3:GC:=.seq ((.seq (.ops (rg f121 2)) (.cond (.tmp 17) (.seq (.ops (rg f121 3)) .ret) .skip))) (.seq (.ops (rg f121 4)) G4)
def Gz:GC:=.seq ((.seq (.ops (rg f121 1)) (.cond (.tmp 11) F3 .skip))) (.seq (.ops (rg f121 14)) (.seq (.ops (rg f121 15)) .ret))
def Gg:GC:=.seq (.ops (rg f121 0)) Gz
def F121:=@eW 121 2 54 f121 Gg [.tmp 4] (fun _ _=>rfl) (by kernel_rfl) (by kernel_rfl) rfl rfl (by decide)
def Oi:GC:=.seq (.ops (rg f123 0)) (.seq (.ops (rg f123 1)) (.seq (.ops (rg f123 2)) .ret))
def F123:=@eW 123 1 15 f123 Oi [.tmp 2] (fun _ _=>rfl) (by kernel_rfl) (by kernel_rfl) rfl rfl (by decide)
def J2:GC:=.seq (.ops (rg f128 0)) (.seq (.ops (rg f128 1)) .ret)
def F128:=@eW 128 0 2 f128 J2 [.tmp 0] (fun _ _=>rfl) (by kernel_rfl) (by kernel_rfl) rfl rfl (by decide)
def K5:GC:=.seq (.ops (rg f129 0)) (.seq (.ops (rg f129 1)) .ret)
def F129:=@eW 129 0 2 f129 K5 [.tmp 0] (fun _ _=>rfl) (by kernel_rfl) (by kernel_rfl) rfl rfl (by decide)
def PK:GC:=.seq (.ops (rg f130 0)) (.seq (.ops (rg f130 1)) (.seq (.ops (rg f130 2)) (.seq (.ops (rg f130 3)) .ret)))
def F130:=@eW 130 3 23 f130 PK [.tmp 6] (fun _ _=>rfl) (by kernel_rfl) (by kernel_rfl) rfl rfl (by decide)
def M5:GC:=.seq (.ops (rg f131 0)) (.seq (.ops (rg f131 1)) (.seq (.ops (rg f131 2)) (.seq (.ops (rg f131 3)) .ret)))
def F131:=@eW 131 3 23 f131 M5 [.tmp 6] (fun _ _=>rfl) (by kernel_rfl) (by kernel_rfl) rfl rfl (by decide)
def Ot:GC:=.seq (.ops (rg f141 0)) (.seq (.ops (rg f141 1)) .ret)
def F141:=@eW 141 1 5 f141 Ot [.tmp 2] (fun _ _=>rfl) (by kernel_rfl) (by kernel_rfl) rfl rfl (by decide)
def Nu:=pg f144 3 [(0,[]),(1,[]),(3,[]),(4,[]),(5,[]),(6,[]),(7,[]),(8,[]),(2,[8]),(9,[]),(10,[])]
def Mg:GC:=.seq ((.seq (.ops (rg f144 1)) (.cond (.tmp 4) (.seq (.ops (rg f144 2)) .ret) .skip))) (.seq (.fZ Nu) .ret)
def NG:GC:=.seq (.ops (rg f144 0)) Mg
def Yy:=@eW 144 1 20 f144 NG [.tmp 2] (fun _ _=>rfl) (by kernel_rfl) (by kernel_rfl) rfl rfl (by decide)
def Qw:GC:=.seq (.ops (rg f148 0)) (.seq (.ops (rg f148 1)) .ret)
def F148:=@eW 148 1 6 f148 Qw [.tmp 2] (fun _ _=>rfl) (by kernel_rfl) (by kernel_rfl) rfl rfl (by decide)
def PC:GC:=.seq ((.seq (.ops (rg f150 1)) (.cond (.tmp 3) (.seq (.ops (rg f150 2)) .ret) .skip))) (.seq (.ops (rg f150 0)) .ret)
def Px:GC:=.seq (.ops (rg f150 0)) PC
def F150:=@eW 150 1 4 f150 Px [.tmp 2] (fun _ _=>rfl) (by kernel_rfl) (by kernel_rfl) rfl rfl (by decide)
end
end Go.Proofs.YtohjaacnlmkhbaaGreatDoor

/- THE CODE OF THE FUNCTIONS THAT THE LAW REACHES, AS PLAIN LEAN. Conditions: none. -/
import Derived.Test.YtohjaacnlmkhbaaGreatDoorKT
import Derived.Test.YtohjaacnlmkhbaaGreatDoorZF
import Derived.Test.YtohjaacnlmkhbaaGreatDoorChecked
import Derived.KernelRfl
set_option linter.unusedSimpArgs false
set_option linter.unusedVariables false
namespace Go.Proofs.YtohjaacnlmkhbaaGreatDoor
open Go.Ev Go Tryz
set_option linter.defProp false
noncomputable section
set_option maxRecDepth 100000
def opWords:List (List UInt8):=[[110,111,112],[99,111,110,115,116],[97,100,100],[115,117,98],[109,117,108],[106,117,109,112],[122,101,114,111],[99,111,100,101]]
def wordAt (w:ByteArray):List (List UInt8)→Nat→Option Nat
 | [],_=>none
 | x::l,n=>cond (eqStr w ⟨x.toArray⟩) (some n) (wordAt w l (n+1))
def orcS (es:List (Value×Value×Nat)) (fr:Fr) (h:Heap):Option (Option Nat) :=
 cond (Nat.beq es.length 8) (match fr.get 1 with
   | some (.pointer (some a))=>match cellAt h a with
     | some (.slice (some b) _ _)=>match cellAt h b with
       | some (.string w)=>some (wordAt w opWords 0)
       | _=>none
     | _=>none
   | _=>none) none
noncomputable def envX:Env:={ envOf Tryz.prog 6 (extTab tabs ext14 7) with smap:=smaps2,orc:=orcS }
noncomputable def env:Env:=quietC envX envQ quiets
theorem aN {a b:Prop}(x:a) (y:b):a∧b:=⟨x,y⟩
noncomputable def findR (id:Nat):Code→Option (List Oper)
 | .region k o _=>cond (Nat.beq k id) (some o.toList) none
 | .seq a b=>match findR id a with|some l=>some l|none=>findR id b
 | .cond _ a b=>match findR id a with|some l=>some l|none=>findR id b
 | .block _ a=>findR id a
 | .loop a=>findR id a
 | .scope a=>findR id a
 | _=>none
noncomputable def rg (f:Func) (id:Nat):List GO:=match f.body with
 | some c=>match findR id c with
  | some l=>match mapOpt (cleanO f.ntmps l) l with|some l=>l|none=>[]
  | none=>[]
 | none=>[]
noncomputable def pg (f:Func) (id:Nat) (pl:List (Nat×List Nat)):List (GO×List GO):=match f.body with
 | some c=>match findR id c with
  | some l=>match mapOpt (fun (x:Nat×List Nat)=>match (nth l x.1).bind (cleanO f.ntmps l),mapOpt (fun i=>(nth l i).bind (cleanO f.ntmps l)) x.2 with|some g,some a=>some (g,a)|_,_=>none) pl with|some l=>l|none=>[]
  | none=>[]
 | none=>[]
theorem uR (f:Func) (k:Nat) {l:List GO}(e:rg f k=l):∀⦃E:Env⦄⦃fr:Fr⦄⦃h:Heap⦄⦃Q:Fr→Heap→Prop⦄,opsW E (rg f k) fr h Q=opsW E l fr h Q:=by intros;rw[e]
theorem uQ {l l':List GO}(e:l=l'):∀⦃E:Env⦄⦃fr:Fr⦄⦃h:Heap⦄⦃Q:Fr→Heap→Prop⦄,opsW E l fr h Q=opsW E l' fr h Q:=by intros;rw[e]
theorem uP {l l':List (GO×List GO)}(e:l=l'):∀⦃E:Env⦄⦃fr:Fr⦄⦃h:Heap⦄⦃Q:Fr→Heap→Prop⦄,planW E l fr h Q=planW E l' fr h Q:=by intros;rw[e]
theorem uS {c c':GC}(e:c=c'):∀⦃E:Env⦄⦃nt:Nat⦄⦃rd:Option Nat⦄⦃fr:Fr⦄⦃h:Heap⦄⦃Q:Ex→Fr→Heap→Prop⦄,c.wp E nt rd fr h Q=c'.wp E nt rd fr h Q:=by intros;rw[e]
theorem Fof (f n nt:Nat) (fn:Func) (g:GC) (rs:List ResultVar) (hx:∀ a h,env.ext f a h=none) (hf:env.funs.get f=some fn) (hg:fn.body.bind (clean env nt)=some g) (hn:fn.ntmps=nt) (hrs:fn.results.toList=rs) (hle:n≤nt):∀{args:List Value}{h:Heap}{K:Value→Heap→Prop},args.length=n→g.wp env nt none (setAll args 0 .leaf) h (resK env rs K)→Ret env (.func f) args h K:=fun hl w=>Ret.of_body' (hx _ _) hf hg hn hrs (by omega) w
theorem gC (f:Nat) (hq:env.qf f=false):∀{fr:Fr}{h:Heap}{K:Value→Heap→Prop}{xs:List Operand}{ts:Array TypeId},opW env (.call ⟨.value (.func f),⟨xs⟩,ts⟩) fr h K=evsK env fr xs fun us=>Ret env (.func f) us h K:=opW_call hq
theorem gF (t f n:Nat) (ht:fldOff env t f=some n):∀{fr:Fr}{h:Heap}{K:Value→Heap→Prop}{x:Operand},opW env (.fieldAddr t x f) fr h K=evK env fr x fun v=>fldAK n v fun u=>K u h:=opW_fieldAddr ht
theorem gL (t:Nat) (ht:isOne env t=true):∀{fr:Fr}{h:Heap}{K:Value→Heap→Prop}{x:Operand},opW env (.load t x) fr h K=evK env fr x fun v=>ld1K h v fun u=>K u h:=opW_load1 ht
theorem gLN (t n:Nat) (ht:isMany env t=some n):∀{fr:Fr}{h:Heap}{K:Value→Heap→Prop}{x:Operand},opW env (.load t x) fr h K=evK env fr x fun v=>ldNK h n v fun u=>K u h:=opW_loadN ht
theorem gS (t n:Nat) (ht:size env t=some n):∀{fr:Fr}{h:Heap}{K:Value→Heap→Prop}{x y:Operand},opW env (.store t x y) fr h K=evK env fr x fun p=>evK env fr y fun v=>stK n p v h K:=opW_store ht
theorem gA (t:Nat) (ht:isOne env t=true):∀{h:Heap}{v:Value}{K:Value→Prop},agL env t v h K=ld1K h v K:=agL_one ht
theorem gAN (t n:Nat) (ht:isMany env t=some n):∀{h:Heap}{v:Value}{K:Value→Prop},agL env t v h K=ldNK h n v K:=agL_many ht
theorem gI (t n:Nat) (ht:sliceSz env t=some n):∀{fr:Fr}{h:Heap}{K:Value→Heap→Prop}{x y:Operand},opW env (.indexAddr t x y) fr h K=evK env fr x fun v=>evK env fr y fun i=>idxSK n v i fun u=>K u h:=opW_indexAddrS ht
theorem gB (t l e sz:Nat) (zs:List Value) (hx:Go.Ev.elemOf env t=some (e,sz,zs)) (hl:l*sz≤1000000):∀{fr:Fr}{h:Heap}{K:Value→Heap→Prop}{ps:List (Nat×Operand)},opW env (.buildSlice t l ⟨ps⟩) fr h K=evpK env fr ps fun q=>bsK e sz zs l q h K:=opW_buildSlice hx hl
theorem gN (t:Nat) (ht:isSlice env t=true):∀{fr:Fr}{h:Heap}{K:Value→Heap→Prop}{x:Operand},opW env (.call ⟨.builtin .len,⟨[x]⟩,⟨[t]⟩⟩) fr h K=evK env fr x fun v=>lenK v fun u=>K u h:=opW_lenS ht
section
variable {fr:Fr}{h:Heap}{K:Value→Heap→Prop}{x y z:Operand}{ps:List (Nat×Operand)}
theorem al_28:opW env (.alloc 28) fr h K=K (.pointer (some ⟨h.n,0,none⟩)) (newBlk h (.cells [.int .i64 0,.int .i64 0,.int .i64 0,.int .i64 0,.int .i64 0,.int .i64 0,.int .i64 0,.int .i64 0,.int .i64 0,.int .i64 0,.int .u64 0,.int .u64 0,.int .u64 0,.int .u64 0,.slice none 0 0,.slice none 0 0] 28 true)):=opW_alloc (v:=.agg ⟨[.int .i64 0,.int .i64 0,.int .i64 0,.int .i64 0,.int .i64 0,.int .i64 0,.int .i64 0,.int .i64 0,.int .i64 0,.int .i64 0,.int .u64 0,.int .u64 0,.int .u64 0,.int .u64 0,.slice none 0 0,.slice none 0 0]⟩) (by kernel_rfl) rfl rfl
theorem lens_9:opW env (.call ⟨.builtin .len,⟨[x]⟩,⟨[9]⟩⟩) fr h K=evK env fr x fun v=>lenStrK v fun u=>K u h:=opW_lenStr (by kernel_rfl)
theorem ap_36_36:opW env (.call ⟨.builtin .append,⟨[x,y]⟩,⟨[36,36]⟩⟩) fr h K=evK env fr x fun s=>evK env fr y fun v=>appK 5 1 s v h K:=opW_append (zs:=[.int .u8 0]) (by kernel_rfl) (by kernel_rfl)
theorem ap_23_23:opW env (.call ⟨.builtin .append,⟨[x,y]⟩,⟨[23,23]⟩⟩) fr h K=evK env fr x fun s=>evK env fr y fun v=>appK 36 1 s v h K:=opW_append (zs:=[.slice none 0 0]) (by kernel_rfl) (by kernel_rfl)
theorem ap_26_26:opW env (.call ⟨.builtin .append,⟨[x,y]⟩,⟨[26,26]⟩⟩) fr h K=evK env fr x fun s=>evK env fr y fun v=>appK 35 4 s v h K:=opW_append (zs:=[.int .i64 0,.int .i64 0,.int .i64 0,.int .i64 0]) (by kernel_rfl) (by kernel_rfl)
theorem eqA_35:∀ {a0 b0 a1 b1 a2 b2 a3 b3:Int},aeq env 100 35 (.agg ⟨[.int .i64 a0,.int .i64 a1,.int .i64 a2,.int .i64 a3]⟩) (.agg ⟨[.int .i64 b0,.int .i64 b1,.int .i64 b2,.int .i64 b3]⟩)=some (decide ((a0=b0)∧((a1=b1)∧((a2=b2)∧((a3=b3)∧(True)))))):=by
 intro a0 b0 a1 b1 a2 b2 a3 b3
 have e:aeq env 100 35 (.agg ⟨[.int .i64 a0,.int .i64 a1,.int .i64 a2,.int .i64 a3]⟩) (.agg ⟨[.int .i64 b0,.int .i64 b1,.int .i64 b2,.int .i64 b3]⟩)=bindB (some (a0==b0)) (bindB (some (a1==b1)) (bindB (some (a2==b2)) (bindB (some (a3==b3)) (some true)))):=by kernel_rfl
 rw[e];simp only[bindB_some,beqI,Bool.decide_and,decide_true]
theorem neqA_35:∀ {a0 b0 a1 b1 a2 b2 a3 b3:Int}{c:Bool}{K:Value→Prop},binK env .neq 35 c (.agg ⟨[.int .i64 a0,.int .i64 a1,.int .i64 a2,.int .i64 a3]⟩) (.agg ⟨[.int .i64 b0,.int .i64 b1,.int .i64 b2,.int .i64 b3]⟩) K=brK ((a0=b0)∧((a1=b1)∧((a2=b2)∧((a3=b3)∧(True))))) (K (.bool false)) (K (.bool true)):=bin_neqP (by kernel_rfl) eqA_35
theorem eqlA_35:∀ {a0 b0 a1 b1 a2 b2 a3 b3:Int}{c:Bool}{K:Value→Prop},binK env .eql 35 c (.agg ⟨[.int .i64 a0,.int .i64 a1,.int .i64 a2,.int .i64 a3]⟩) (.agg ⟨[.int .i64 b0,.int .i64 b1,.int .i64 b2,.int .i64 b3]⟩) K=brK ((a0=b0)∧((a1=b1)∧((a2=b2)∧((a3=b3)∧(True))))) (K (.bool true)) (K (.bool false)):=bin_eqlP (by kernel_rfl) eqA_35
theorem al_56:opW env (.alloc 56) fr h K=K (.pointer (some ⟨h.n,0,none⟩)) (newBlk h (.cells [.pointer none,.slice none 0 0] 56 true)):=opW_alloc (v:=.agg ⟨[.pointer none,.slice none 0 0]⟩) (by kernel_rfl) rfl rfl
theorem al_35:opW env (.alloc 35) fr h K=K (.pointer (some ⟨h.n,0,none⟩)) (newBlk h (.cells [.int .i64 0,.int .i64 0,.int .i64 0,.int .i64 0] 35 true)):=opW_alloc (v:=.agg ⟨[.int .i64 0,.int .i64 0,.int .i64 0,.int .i64 0]⟩) (by kernel_rfl) rfl rfl
theorem ap_65_65:opW env (.call ⟨.builtin .append,⟨[x,y]⟩,⟨[65,65]⟩⟩) fr h K=evK env fr x fun s=>evK env fr y fun v=>appK 9 1 s v h K:=opW_append (zs:=[.string ⟨⟨[]⟩⟩]) (by kernel_rfl) (by kernel_rfl)
theorem bd_35:opW env (.build 35 ⟨ps⟩) fr h K=evpK env fr ps fun l=>bdK [.int .i64 0,.int .i64 0,.int .i64 0,.int .i64 0] [(0,1),(1,1),(2,1),(3,1)] l fun u=>K u h:=opW_build (by kernel_rfl)
theorem bd_28:opW env (.build 28 ⟨ps⟩) fr h K=evpK env fr ps fun l=>bdK [.int .i64 0,.int .i64 0,.int .i64 0,.int .i64 0,.int .i64 0,.int .i64 0,.int .i64 0,.int .i64 0,.int .i64 0,.int .i64 0,.int .u64 0,.int .u64 0,.int .u64 0,.int .u64 0,.slice none 0 0,.slice none 0 0] [(0,15),(15,1)] l fun u=>K u h:=opW_build (by kernel_rfl)
theorem cv_3_22:opW env (.convert 3 22 x) fr h K=evK env fr x fun v=>cintK .u64 v fun u=>K u h:=opW_cint (k':=.i64) (by kernel_rfl) (by kernel_rfl)
theorem cv_36_9:opW env (.convert 36 9 x) fr h K=evK env fr x fun v=>bstrK h v fun u=>K u h:=opW_bstr (by kernel_rfl)
theorem ap_36_9:opW env (.call ⟨.builtin .append,⟨[x,y]⟩,⟨[36,9]⟩⟩) fr h K=evK env fr x fun s=>evK env fr y fun v=>appK 5 1 s v h K:=opW_append (zs:=[.int .u8 0]) (by kernel_rfl) (by kernel_rfl)
theorem mm_62:opW env (.makeMap 62 none) fr h K=K (.map (some h.n)) (newBlk h (.smap [])):=opW_makeMapS (by kernel_rfl) rfl
theorem mi_106:opW env (.makeInterface 106 x) fr h K=evK env fr x fun v=>K (.iface 106 v) h:=opW_makeIface (by kernel_rfl)
theorem mi_107:opW env (.makeInterface 107 x) fr h K=evK env fr x fun v=>K (.iface 107 v) h:=opW_makeIface (by kernel_rfl)
theorem ta_106:∀ {s:TypeId},opW env (.typeAssert x s 106 true) fr h K=evK env fr x fun v=>taK 106 (.pointer none) v fun u=>K u h:=opW_typeAssertC (by kernel_rfl)
theorem ta_107:∀ {s:TypeId},opW env (.typeAssert x s 107 true) fr h K=evK env fr x fun v=>taK 107 (.pointer none) v fun u=>K u h:=opW_typeAssertC (by kernel_rfl)
theorem cv_22_3:opW env (.convert 22 3 x) fr h K=evK env fr x fun v=>cintK .i64 v fun u=>K u h:=opW_cint (k':=.u64) (by kernel_rfl) (by kernel_rfl)
theorem al_125:opW env (.alloc 125) fr h K=K (.pointer (some ⟨h.n,0,none⟩)) (newBlk h (.cells [.int .u8 0,.int .u8 0,.int .u8 0,.int .u8 0] 125 true)):=opW_alloc (v:=.agg ⟨[.int .u8 0,.int .u8 0,.int .u8 0,.int .u8 0]⟩) (by kernel_rfl) rfl rfl
theorem cv_5_22:opW env (.convert 5 22 x) fr h K=evK env fr x fun v=>cintK .u64 v fun u=>K u h:=opW_cint (k':=.u8) (by kernel_rfl) (by kernel_rfl)
theorem al_101:opW env (.alloc 101) fr h K=K (.pointer (some ⟨h.n,0,none⟩)) (newBlk h (.cells [.string ⟨⟨[]⟩⟩,.nilIface,.int .i64 0,.int .i64 0,.string ⟨⟨[]⟩⟩,.nilIface,.int .i64 0,.int .i64 0,.string ⟨⟨[]⟩⟩,.nilIface,.int .i64 0,.int .i64 0,.string ⟨⟨[]⟩⟩,.nilIface,.int .i64 0,.int .i64 0,.string ⟨⟨[]⟩⟩,.nilIface,.int .i64 0,.int .i64 0,.string ⟨⟨[]⟩⟩,.nilIface,.int .i64 0,.int .i64 0,.string ⟨⟨[]⟩⟩,.nilIface,.int .i64 0,.int .i64 0,.string ⟨⟨[]⟩⟩,.nilIface,.int .i64 0,.int .i64 0,.string ⟨⟨[]⟩⟩,.nilIface,.int .i64 0,.int .i64 0,.string ⟨⟨[]⟩⟩,.nilIface,.int .i64 0,.int .i64 0,.string ⟨⟨[]⟩⟩,.nilIface,.int .i64 0,.int .i64 0,.string ⟨⟨[]⟩⟩,.nilIface,.int .i64 0,.int .i64 0,.string ⟨⟨[]⟩⟩,.nilIface,.int .i64 0,.int .i64 0,.string ⟨⟨[]⟩⟩,.nilIface,.int .i64 0,.int .i64 0] 101 true)):=opW_alloc (v:=.agg ⟨[.string ⟨⟨[]⟩⟩,.nilIface,.int .i64 0,.int .i64 0,.string ⟨⟨[]⟩⟩,.nilIface,.int .i64 0,.int .i64 0,.string ⟨⟨[]⟩⟩,.nilIface,.int .i64 0,.int .i64 0,.string ⟨⟨[]⟩⟩,.nilIface,.int .i64 0,.int .i64 0,.string ⟨⟨[]⟩⟩,.nilIface,.int .i64 0,.int .i64 0,.string ⟨⟨[]⟩⟩,.nilIface,.int .i64 0,.int .i64 0,.string ⟨⟨[]⟩⟩,.nilIface,.int .i64 0,.int .i64 0,.string ⟨⟨[]⟩⟩,.nilIface,.int .i64 0,.int .i64 0,.string ⟨⟨[]⟩⟩,.nilIface,.int .i64 0,.int .i64 0,.string ⟨⟨[]⟩⟩,.nilIface,.int .i64 0,.int .i64 0,.string ⟨⟨[]⟩⟩,.nilIface,.int .i64 0,.int .i64 0,.string ⟨⟨[]⟩⟩,.nilIface,.int .i64 0,.int .i64 0,.string ⟨⟨[]⟩⟩,.nilIface,.int .i64 0,.int .i64 0,.string ⟨⟨[]⟩⟩,.nilIface,.int .i64 0,.int .i64 0]⟩) (by kernel_rfl) rfl rfl
theorem bd_100:opW env (.build 100 ⟨ps⟩) fr h K=evpK env fr ps fun l=>bdK [.string ⟨⟨[]⟩⟩,.nilIface,.int .i64 0,.int .i64 0] [(0,1),(1,1),(2,1),(3,1)] l fun u=>K u h:=opW_build (by kernel_rfl)
theorem bd_101:opW env (.build 101 ⟨ps⟩) fr h K=evpK env fr ps fun l=>bdaK [.string ⟨⟨[]⟩⟩,.nilIface,.int .i64 0,.int .i64 0,.string ⟨⟨[]⟩⟩,.nilIface,.int .i64 0,.int .i64 0,.string ⟨⟨[]⟩⟩,.nilIface,.int .i64 0,.int .i64 0,.string ⟨⟨[]⟩⟩,.nilIface,.int .i64 0,.int .i64 0,.string ⟨⟨[]⟩⟩,.nilIface,.int .i64 0,.int .i64 0,.string ⟨⟨[]⟩⟩,.nilIface,.int .i64 0,.int .i64 0,.string ⟨⟨[]⟩⟩,.nilIface,.int .i64 0,.int .i64 0,.string ⟨⟨[]⟩⟩,.nilIface,.int .i64 0,.int .i64 0,.string ⟨⟨[]⟩⟩,.nilIface,.int .i64 0,.int .i64 0,.string ⟨⟨[]⟩⟩,.nilIface,.int .i64 0,.int .i64 0,.string ⟨⟨[]⟩⟩,.nilIface,.int .i64 0,.int .i64 0,.string ⟨⟨[]⟩⟩,.nilIface,.int .i64 0,.int .i64 0,.string ⟨⟨[]⟩⟩,.nilIface,.int .i64 0,.int .i64 0,.string ⟨⟨[]⟩⟩,.nilIface,.int .i64 0,.int .i64 0] 4 l fun u=>K u h:=opW_buildA (by kernel_rfl)
theorem eqA_125:∀ {a0 b0 a1 b1 a2 b2 a3 b3:Int},aeq env 100 125 (.agg ⟨[.int .u8 a0,.int .u8 a1,.int .u8 a2,.int .u8 a3]⟩) (.agg ⟨[.int .u8 b0,.int .u8 b1,.int .u8 b2,.int .u8 b3]⟩)=some (decide ((a0=b0)∧((a1=b1)∧((a2=b2)∧((a3=b3)∧(True)))))):=by
 intro a0 b0 a1 b1 a2 b2 a3 b3
 have e:aeq env 100 125 (.agg ⟨[.int .u8 a0,.int .u8 a1,.int .u8 a2,.int .u8 a3]⟩) (.agg ⟨[.int .u8 b0,.int .u8 b1,.int .u8 b2,.int .u8 b3]⟩)=bindB (some (a0==b0)) (bindB (some (a1==b1)) (bindB (some (a2==b2)) (bindB (some (a3==b3)) (some true)))):=by kernel_rfl
 rw[e];simp only[bindB_some,beqI,Bool.decide_and,decide_true]
theorem neqA_125:∀ {a0 b0 a1 b1 a2 b2 a3 b3:Int}{c:Bool}{K:Value→Prop},binK env .neq 125 c (.agg ⟨[.int .u8 a0,.int .u8 a1,.int .u8 a2,.int .u8 a3]⟩) (.agg ⟨[.int .u8 b0,.int .u8 b1,.int .u8 b2,.int .u8 b3]⟩) K=brK ((a0=b0)∧((a1=b1)∧((a2=b2)∧((a3=b3)∧(True))))) (K (.bool false)) (K (.bool true)):=bin_neqP (by kernel_rfl) eqA_125
theorem mm_148:opW env (.makeMap 148 none) fr h K=K (.map (some h.n)) (newBlk h (.smap [])):=opW_makeMapS (by kernel_rfl) rfl
theorem cv_5_3:opW env (.convert 5 3 x) fr h K=evK env fr x fun v=>cintK .i64 v fun u=>K u h:=opW_cint (k':=.u8) (by kernel_rfl) (by kernel_rfl)
theorem callE_96:∀ {xs:List Operand}{ts:Array TypeId},opW env (.call ⟨.value (.func 96),⟨xs⟩,ts⟩) fr h K=evsK env fr xs fun us=>onV (env.qc 96 us) fun v=>K v h:=opW_callq rfl
theorem callE_97:∀ {xs:List Operand}{ts:Array TypeId},opW env (.call ⟨.value (.func 97),⟨xs⟩,ts⟩) fr h K=evsK env fr xs fun us=>onV (env.qc 97 us) fun v=>K v h:=opW_callq rfl
theorem cv_123_3:opW env (.convert 123 3 x) fr h K=evK env fr x fun v=>cintK .i64 v fun u=>K u h:=opW_cint (k':=.u8) (by kernel_rfl) (by kernel_rfl)
theorem al_100:opW env (.alloc 100) fr h K=K (.pointer (some ⟨h.n,0,none⟩)) (newBlk h (.cells [.string ⟨⟨[]⟩⟩,.nilIface,.int .i64 0,.int .i64 0] 100 true)):=opW_alloc (v:=.agg ⟨[.string ⟨⟨[]⟩⟩,.nilIface,.int .i64 0,.int .i64 0]⟩) (by kernel_rfl) rfl rfl
theorem cv_3_5:opW env (.convert 3 5 x) fr h K=evK env fr x fun v=>cintK .u8 v fun u=>K u h:=opW_cint (k':=.i64) (by kernel_rfl) (by kernel_rfl)
theorem cv_3_123:opW env (.convert 3 123 x) fr h K=evK env fr x fun v=>cintK .u8 v fun u=>K u h:=opW_cint (k':=.i64) (by kernel_rfl) (by kernel_rfl)
theorem bd_125:opW env (.build 125 ⟨ps⟩) fr h K=evpK env fr ps fun l=>bdK [.int .u8 0,.int .u8 0,.int .u8 0,.int .u8 0] [(0,1),(1,1),(2,1),(3,1)] l fun u=>K u h:=opW_build (by kernel_rfl)
theorem cv_22_5:opW env (.convert 22 5 x) fr h K=evK env fr x fun v=>cintK .u8 v fun u=>K u h:=opW_cint (k':=.u64) (by kernel_rfl) (by kernel_rfl)
theorem al_171:opW env (.alloc 171) fr h K=K (.pointer (some ⟨h.n,0,none⟩)) (newBlk h (.cells [.int .u8 0,.int .u8 0,.int .u8 0,.int .u8 0,.int .u8 0,.int .u8 0,.int .u8 0,.int .u8 0,.int .u8 0,.int .u8 0,.int .u8 0,.int .u8 0,.int .u8 0,.int .u8 0,.int .u8 0,.int .u8 0,.int .u8 0,.int .u8 0,.int .u8 0,.int .u8 0,.int .u8 0,.int .u8 0,.int .u8 0,.int .u8 0] 171 true)):=opW_alloc (v:=.agg ⟨[.int .u8 0,.int .u8 0,.int .u8 0,.int .u8 0,.int .u8 0,.int .u8 0,.int .u8 0,.int .u8 0,.int .u8 0,.int .u8 0,.int .u8 0,.int .u8 0,.int .u8 0,.int .u8 0,.int .u8 0,.int .u8 0,.int .u8 0,.int .u8 0,.int .u8 0,.int .u8 0,.int .u8 0,.int .u8 0,.int .u8 0,.int .u8 0]⟩) (by kernel_rfl) rfl rfl
theorem mm_176:opW env (.makeMap 176 none) fr h K=K (.map (some h.n)) (newBlk h (.map [] 0)):=opW_makeMap (by kernel_rfl) rfl
theorem cv_2_22:opW env (.convert 2 22 x) fr h K=evK env fr x fun v=>cintK .u64 v fun u=>K u h:=opW_cint (k':=.i64) (by kernel_rfl) (by kernel_rfl)
theorem mi_188:opW env (.makeInterface 188 x) fr h K=evK env fr x fun v=>K (.iface 188 v) h:=opW_makeIface (by kernel_rfl)
theorem cv_3_149:opW env (.convert 3 149 x) fr h K=evK env fr x fun v=>cintK .u64 v fun u=>K u h:=opW_cint (k':=.i64) (by kernel_rfl) (by kernel_rfl)
theorem mm_158:opW env (.makeMap 158 none) fr h K=K (.map (some h.n)) (newBlk h (.map [] 0)):=opW_makeMap (by kernel_rfl) rfl
theorem bd_178:opW env (.build 178 ⟨ps⟩) fr h K=evpK env fr ps fun l=>bdK [.string ⟨⟨[]⟩⟩] [(0,1)] l fun u=>K u h:=opW_build (by kernel_rfl)
theorem ia_171:opW env (.indexAddr 171 x y) fr h K=evK env fr x fun v=>evK env fr y fun i=>idxAK 24 1 v i fun u=>K u h:=opW_indexAddrA (by kernel_rfl)
theorem gl_2:∀ {K:Value→Prop},evK env fr (.global 2) K=K (.pointer (some ⟨2,0,none⟩)):=evK_global rfl
theorem ia_207:opW env (.indexAddr 207 x y) fr h K=evK env fr x fun v=>evK env fr y fun i=>idxAK 20 1 v i fun u=>K u h:=opW_indexAddrA (by kernel_rfl)
end
def s4_9:GC:=.seq ((.seq (.ops (rg f4 8)) (.cond (.tmp 37) (.seq (.ops (rg f4 9)) .ret) .skip))) (.seq (.ops (rg f4 10)) (.seq (.ops (rg f4 11)) .ret))
def s4_17:GC:=.seq (.ops (rg f4 5)) (.seq ((.seq (.ops (rg f4 6)) (.cond (.tmp 35) (.seq (.ops (rg f4 7)) .ret) .skip))) s4_9)
def s4_27:GC:=.seq ((.seq (.ops (rg f4 1)) (.cond (.tmp 10) (.seq (.ops (rg f4 2)) .ret) .skip))) (.seq (.ops (rg f4 3)) (.seq (.ops (rg f4 4)) s4_17))
def s4_29:GC:=.seq (.ops (rg f4 0)) s4_27
def F4:=@Fof 4 1 64 f4 s4_29 [.tmp 2] (fun _ _=>rfl) (by kernel_rfl) (by kernel_rfl) rfl rfl (by decide)
def s5_7:GC:=.seq ((.seq (.ops (rg f5 5)) (.cond (.tmp 29) (.seq (.ops (rg f5 0)) .ret) .skip))) (.seq (.ops (rg f5 7)) .ret)
def s5_17:GC:=.seq ((.seq (.ops (rg f5 1)) (.cond (.tmp 9) (.seq (.ops (rg f5 2)) .ret) .skip))) (.seq (.ops (rg f5 3)) (.seq (.ops (rg f5 4)) s5_7))
def s5_19:GC:=.seq (.ops (rg f5 0)) s5_17
def s6_3:GC:=.seq (.ops (rg f6 0)) (.seq (.ops (rg f6 1)) .ret)
def F6:=@Fof 6 1 12 f6 s6_3 [.tmp 2] (fun _ _=>rfl) (by kernel_rfl) (by kernel_rfl) rfl rfl (by decide)
def s8_14:GC:=.seq ((.seq (.ops (rg f8 3)) (.cond (.tmp 10) .skip (.exit 0)))) (.seq (.block 1 (.ops (rg f8 5))) (.ops (rg f8 4)))
def s8_19:GC:=.seq ((.seq (.ops (rg f8 2)) (.block 0 (.loop s8_14)))) (.seq (.ops (rg f8 6)) (.seq (.ops (rg f8 7)) (.seq (.ops (rg f8 8)) .ret)))
def s8_23:GC:=.seq (.ops (rg f8 0)) (.seq (.ops (rg f8 1)) s8_19)
def F8:=@Fof 8 1 31 f8 s8_23 [.cell 2 28] (fun _ _=>rfl) (by kernel_rfl) (by kernel_rfl) rfl rfl (by decide)
def p10_7:=pg f10 6 [(0,[]),(1,[]),(2,[]),(3,[]),(4,[]),(5,[]),(6,[]),(7,[]),(8,[]),(9,[]),(10,[])]
def s10_9:GC:=.seq (.block 1 (.seq (.plan p10_7) (.cond (.tmp 38) (.seq (.ops (rg f10 2)) .ret) .skip))) (.ops (rg f10 5))
def s10_17:GC:=.seq (.ops (rg f10 3)) (.block 0 (.loop (.seq ((.seq (.ops (rg f10 4)) (.cond (.tmp 25) .skip (.exit 0)))) s10_9)))
def s10_24:GC:=.seq ((.seq (.ops (rg f10 1)) (.cond (.tmp 20) (.seq (.ops (rg f10 2)) .ret) .skip))) (.seq (s10_17) (.seq (.ops (rg f10 8)) .ret))
def s10_26:GC:=.seq (.ops (rg f10 0)) s10_24
def F10:=@Fof 10 2 39 f10 s10_26 [.tmp 4] (fun _ _=>rfl) (by kernel_rfl) (by kernel_rfl) rfl rfl (by decide)
def s12_10:GC:=.seq ((.cond (.tmp 68) .skip (.exit 6))) (.seq (.block 7 (.seq (.ops (rg f12 24)) (.ops (rg f12 25)))) (.ops (rg f12 26)))
def s12_17:GC:=.seq ((.seq (.ops (rg f12 22)) (.block 6 (.loop (.seq (.ops (rg f12 23)) s12_10))))) (.seq (.ops (rg f12 27)) .ret)
def s12_28:GC:=.seq ((.cond (.tmp 55) .skip (.exit 4))) (.seq (.block 5 (.seq (.ops (rg f12 18)) (.ops (rg f12 19)))) (.ops (rg f12 20)))
def s12_31:GC:=.loop (.seq (.ops (rg f12 17)) s12_28)
def s12_32:GC:=.block 4 s12_31
def s12_39:GC:=.seq (.block 3 (.seq (.ops (rg f12 14)) (.seq (.ops (rg f12 15)) (.seq (.ops (rg f12 16)) s12_32)))) (.ops (rg f12 21))
def s12_45:GC:=.block 2 (.loop (.seq (.ops (rg f12 13)) (.seq ((.cond (.tmp 45) .skip (.exit 2))) s12_39)))
def s12_48:GC:=.seq ((.seq (.ops (rg f12 12)) s12_45)) s12_17
def s12_57:GC:=.seq ((.cond (.tmp 27) .skip (.exit 0))) (.seq (.block 1 (.seq (.ops (rg f12 9)) (.ops (rg f12 10)))) (.ops (rg f12 11)))
def s12_64:GC:=.seq ((.seq (.ops (rg f12 7)) (.block 0 (.loop (.seq (.ops (rg f12 8)) s12_57))))) s12_48
def s12_70:GC:=.seq (.ops (rg f12 4)) (.seq (.ops (rg f12 5)) (.seq (.ops (rg f12 6)) s12_64))
def s12_77:GC:=.seq (.ops (rg f12 1)) (.seq (.ops (rg f12 2)) (.cond (.tmp 19) (.seq (.ops (rg f12 3)) .ret) .skip))
def s12_80:GC:=.seq (.ops (rg f12 0)) (.seq (s12_77) s12_70)
def F12:=@Fof 12 1 77 f12 s12_80 [.tmp 2,.tmp 3] (fun _ _=>rfl) (by kernel_rfl) (by kernel_rfl) rfl rfl (by decide)
def s13_7:GC:=.seq ((.seq (.ops (rg f13 10)) (.cond (.tmp 50) (.seq (.ops (rg f13 11)) .ret) .skip))) (.seq (.ops (rg f13 12)) .ret)
def s13_16:GC:=.seq (.ops (rg f13 7)) (.seq (.ops (rg f13 8)) (.cond (.tmp 46) (.seq (.ops (rg f13 9)) .ret) .skip))
def s13_21:GC:=.seq ((.seq (.ops (rg f13 5)) (.cond (.tmp 16) .skip (.exit 0)))) (.seq (.block 1 s13_16) (.ops (rg f13 6)))
def s13_33:GC:=.seq (.ops (rg f13 1)) (.seq (.ops (rg f13 2)) (.cond (.tmp 10) (.seq (.ops (rg f13 3)) .ret) .skip))
def s13_36:GC:=.seq (.ops (rg f13 0)) (.seq (s13_33) (.seq ((.seq (.ops (rg f13 4)) (.block 0 (.loop s13_21)))) s13_7))
def F13:=@Fof 13 1 51 f13 s13_36 [.tmp 2] (fun _ _=>rfl) (by kernel_rfl) (by kernel_rfl) rfl rfl (by decide)
def s14_11:GC:=.cond (.tmp 11) (.seq (.ops (rg f14 5)) .ret) (.seq (.ops (rg f14 6)) (.cond (.tmp 15) (.seq (.ops (rg f14 7)) .ret) .skip))
def s14_16:GC:=.seq (.ops (rg f14 2)) (.cond (.tmp 7) (.seq (.ops (rg f14 3)) .ret) (.seq (.ops (rg f14 4)) s14_11))
def s14_22:GC:=.seq (.ops (rg f14 0)) (.seq ((.seq (.ops (rg f14 1)) (.block 0 s14_16))) (.seq (.ops (rg f14 8)) .ret))
def F14:=@Fof 14 1 20 f14 s14_22 [.tmp 2] (fun _ _=>rfl) (by kernel_rfl) (by kernel_rfl) rfl rfl (by decide)
def s15_8:GC:=.seq (.ops (rg f15 25)) (.seq (.ops (rg f15 26)) (.cond (.tmp 126) (.seq (.ops (rg f15 27)) .ret) .skip))
def s15_9:GC:=.seq (s15_8) (.seq (.ops (rg f15 28)) .ret)
def s15_18:GC:=.seq (.block 4 (.seq (.ops (rg f15 21)) (.seq (.ops (rg f15 22)) (.ops (rg f15 23))))) (.ops (rg f15 24))
def s15_24:GC:=.block 3 (.loop (.seq (.ops (rg f15 20)) (.seq ((.cond (.tmp 98) .skip (.exit 3))) s15_18)))
def s15_27:GC:=.seq ((.seq (.ops (rg f15 19)) s15_24)) s15_9
def p15_32:=pg f15 11 [(0,[]),(1,[]),(2,[]),(3,[]),(4,[]),(5,[]),(6,[]),(7,[]),(8,[]),(9,[])]
def p15_36:=pg f15 15 [(0,[]),(1,[]),(2,[]),(3,[1]),(4,[]),(5,[]),(6,[]),(7,[])]
def p15_38:=pg f15 17 [(0,[]),(1,[]),(2,[]),(3,[]),(4,[]),(5,[]),(6,[]),(7,[]),(8,[])]
def s15_40:GC:=.cond (.tmp 73) (.plan p15_38) (.exit 0)
def s15_46:GC:=.cond (.tmp 52) (.ops (rg f15 13)) (.seq (.ops (rg f15 14)) (.cond (.tmp 61) (.plan p15_36) (.seq (.ops (rg f15 16)) s15_40)))
def s15_49:GC:=.cond (.tmp 36) (.plan p15_32) (.seq (.ops (rg f15 12)) s15_46)
def s15_54:GC:=.seq (.ops (rg f15 8)) (.cond (.tmp 30) (.ops (rg f15 9)) (.seq (.ops (rg f15 10)) s15_49))
def s15_55:GC:=.block 2 s15_54
def s15_62:GC:=.seq (.block 1 (.seq (.ops (rg f15 5)) (.seq (.ops (rg f15 6)) (.seq (.ops (rg f15 7)) s15_55)))) (.ops (rg f15 18))
def s15_67:GC:=.loop (.seq (.ops (rg f15 4)) (.seq ((.cond (.tmp 22) .skip (.exit 0))) s15_62))
def s15_74:GC:=.seq (.ops (rg f15 2)) (.seq (.skip) (.seq ((.seq (.ops (rg f15 3)) (.block 0 s15_67))) s15_27))
def s15_78:GC:=.seq (.ops (rg f15 0)) (.seq (.ops (rg f15 1)) s15_74)
def F15:=@Fof 15 1 129 f15 s15_78 [.cell 2 28,.tmp 3] (fun _ _=>rfl) (by kernel_rfl) (by kernel_rfl) rfl rfl (by decide)
def s16_10:GC:=.seq ((.seq (.ops (rg f16 18)) (.cond (.tmp 75) .skip (.exit 6)))) (.seq (.block 7 (.ops (rg f16 20))) (.ops (rg f16 19)))
def s16_15:GC:=.seq ((.seq (.ops (rg f16 17)) (.block 6 (.loop s16_10)))) (.seq (.ops (rg f16 21)) .ret)
def s16_26:GC:=.seq ((.seq (.ops (rg f16 14)) (.cond (.tmp 60) .skip (.exit 4)))) (.seq (.block 5 (.ops (rg f16 16))) (.ops (rg f16 15)))
def s16_27:GC:=.loop s16_26
def s16_28:GC:=.block 4 s16_27
def s16_35:GC:=.seq (.block 3 (.seq (.ops (rg f16 11)) (.seq (.ops (rg f16 12)) (.seq (.ops (rg f16 13)) s16_28)))) (.ops (rg f16 10))
def s16_41:GC:=.block 2 (.loop (.seq ((.seq (.ops (rg f16 9)) (.cond (.tmp 41) .skip (.exit 2)))) s16_35))
def s16_44:GC:=.seq ((.seq (.ops (rg f16 8)) s16_41)) s16_15
def p16_47:=pg f16 7 [(0,[]),(1,[]),(2,[]),(3,[]),(4,[]),(8,[]),(9,[]),(10,[]),(11,[]),(5,[11]),(6,[]),(7,[]),(12,[]),(13,[]),(14,[])]
def s16_53:GC:=.seq ((.seq (.ops (rg f16 5)) (.cond (.tmp 19) .skip (.exit 0)))) (.seq (.block 1 (.plan p16_47)) (.ops (rg f16 6)))
def s16_62:GC:=.seq (.ops (rg f16 2)) (.seq (.ops (rg f16 3)) (.seq ((.seq (.ops (rg f16 4)) (.block 0 (.loop s16_53)))) s16_44))
def s16_66:GC:=.seq (.ops (rg f16 0)) (.seq (.ops (rg f16 1)) s16_62)
def F16:=@Fof 16 1 88 f16 s16_66 [.tmp 2] (fun _ _=>rfl) (by kernel_rfl) (by kernel_rfl) rfl rfl (by decide)
def s18_10:GC:=.seq ((.seq (.ops (rg f18 3)) (.cond (.tmp 13) .skip (.exit 0)))) (.seq (.block 1 (.ops (rg f18 5))) (.ops (rg f18 4)))
def s18_17:GC:=.seq (.ops (rg f18 1)) (.seq ((.seq (.ops (rg f18 2)) (.block 0 (.loop s18_10)))) (.seq (.ops (rg f18 6)) .ret))
def s18_19:GC:=.seq (.ops (rg f18 0)) s18_17
def F18:=@Fof 18 1 32 f18 s18_19 [.tmp 2] (fun _ _=>rfl) (by kernel_rfl) (by kernel_rfl) rfl rfl (by decide)
def p22_7:=pg f22 18 [(0,[]),(1,[]),(2,[]),(3,[]),(4,[]),(5,[]),(6,[]),(7,[]),(8,[]),(9,[]),(10,[]),(11,[]),(12,[])]
def s22_9:GC:=.seq (.block 5 (.seq (.plan p22_7) (.cond (.tmp 76) (.seq (.ops (rg f22 6)) .ret) .skip))) (.ops (rg f22 17))
def s22_15:GC:=.block 4 (.loop (.seq ((.seq (.ops (rg f22 16)) (.cond (.tmp 61) .skip (.exit 4)))) s22_9))
def s22_24:GC:=.seq ((.seq (.ops (rg f22 13)) (.cond (.tmp 56) (.seq (.ops (rg f22 6)) .ret) .skip))) (.seq ((.seq (.ops (rg f22 15)) s22_15)) (.seq (.ops (rg f22 20)) .ret))
def p22_30:=pg f22 11 [(0,[]),(1,[]),(2,[]),(3,[]),(4,[]),(5,[]),(6,[]),(7,[]),(8,[])]
def s22_32:GC:=.seq (.block 3 (.seq (.plan p22_30) (.cond (.tmp 49) (.seq (.ops (rg f22 6)) .ret) .skip))) (.ops (rg f22 10))
def s22_38:GC:=.block 2 (.loop (.seq ((.seq (.ops (rg f22 9)) (.cond (.tmp 38) .skip (.exit 2)))) s22_32))
def p22_42:=pg f22 7 [(0,[]),(2,[]),(1,[2]),(3,[]),(4,[]),(5,[])]
def p22_49:=pg f22 5 [(0,[]),(1,[]),(2,[]),(3,[]),(4,[]),(5,[]),(6,[]),(7,[]),(8,[])]
def s22_51:GC:=.seq (.block 1 (.seq (.plan p22_49) (.cond (.tmp 30) (.seq (.ops (rg f22 6)) .ret) .skip))) (.ops (rg f22 4))
def s22_57:GC:=.block 0 (.loop (.seq ((.seq (.ops (rg f22 3)) (.cond (.tmp 19) .skip (.exit 0)))) s22_51))
def s22_60:GC:=.seq ((.seq (.ops (rg f22 2)) s22_57)) (.seq (.plan p22_42) (.seq ((.seq (.ops (rg f22 8)) s22_38)) s22_24))
def p22_61:=pg f22 1 [(0,[]),(2,[]),(1,[2]),(3,[]),(4,[]),(5,[])]
def s22_64:GC:=.seq (.ops (rg f22 0)) (.seq (.plan p22_61) s22_60)
def F22:=@Fof 22 2 77 f22 s22_64 [.tmp 4] (fun _ _=>rfl) (by kernel_rfl) (by kernel_rfl) rfl rfl (by decide)
def s25_1:GC:=.ops (rg f25 0)
def F25:=@Fof 25 2 6 f25 s25_1 [] (fun _ _=>rfl) (by kernel_rfl) (by kernel_rfl) rfl rfl (by decide)
def s26_7:GC:=.seq (.ops (rg f26 0)) (.seq (.ops (rg f26 1)) (.seq (.ops (rg f26 2)) (.seq (.ops (rg f26 3)) .ret)))
def F26:=@Fof 26 2 19 f26 s26_7 [.tmp 4,.tmp 5] (fun _ _=>rfl) (by kernel_rfl) (by kernel_rfl) rfl rfl (by decide)
def p27_0:=pg f27 1 [(0,[]),(1,[]),(2,[]),(3,[]),(4,[]),(6,[]),(7,[]),(8,[]),(9,[]),(11,[]),(12,[]),(13,[]),(14,[]),(16,[]),(17,[]),(18,[]),(19,[]),(21,[]),(22,[]),(23,[]),(24,[]),(26,[]),(27,[]),(28,[]),(29,[]),(31,[]),(32,[]),(33,[]),(34,[]),(36,[]),(37,[]),(38,[]),(39,[]),(41,[]),(42,[]),(43,[]),(44,[]),(46,[]),(47,[]),(48,[]),(49,[]),(51,[]),(52,[]),(53,[]),(54,[]),(56,[]),(57,[]),(58,[]),(59,[]),(61,[]),(62,[]),(63,[]),(64,[]),(66,[]),(67,[]),(68,[]),(69,[])]
def p27_1:=pg f27 1 [(5,[]),(10,[]),(15,[]),(20,[]),(25,[]),(30,[]),(35,[]),(40,[]),(45,[]),(50,[]),(55,[]),(60,[]),(65,[]),(70,[]),(71,[]),(72,[])]
def i27_2:List Op:=[.insert 62 (.tmp 3) (.const (.string ⟨⟨[112,115]⟩⟩)) (.tmp 7),.insert 62 (.tmp 3) (.const (.string ⟨⟨[114,105,110,103]⟩⟩)) (.tmp 11),.insert 62 (.tmp 3) (.const (.string ⟨⟨[103,115]⟩⟩)) (.tmp 15),.insert 62 (.tmp 3) (.const (.string ⟨⟨[99,111,110,116,101,120,116,115]⟩⟩)) (.tmp 19),.insert 62 (.tmp 3) (.const (.string ⟨⟨[100,111,109,97,105,110,115]⟩⟩)) (.tmp 23),.insert 62 (.tmp 3) (.const (.string ⟨⟨[110,111,100,101,115]⟩⟩)) (.tmp 27),.insert 62 (.tmp 3) (.const (.string ⟨⟨[115,108,111,116,115]⟩⟩)) (.tmp 31),.insert 62 (.tmp 3) (.const (.string ⟨⟨[114,101,102,105,108,108,115]⟩⟩)) (.tmp 35),.insert 62 (.tmp 3) (.const (.string ⟨⟨[97,117,100,105,116]⟩⟩)) (.tmp 39),.insert 62 (.tmp 3) (.const (.string ⟨⟨[115,108,105,99,101]⟩⟩)) (.tmp 43),.insert 62 (.tmp 3) (.const (.string ⟨⟨[99,112,117]⟩⟩)) (.tmp 47),.insert 62 (.tmp 3) (.const (.string ⟨⟨[112,101,114,105,111,100]⟩⟩)) (.tmp 51),.insert 62 (.tmp 3) (.const (.string ⟨⟨[98,117,100,103,101,116]⟩⟩)) (.tmp 55),.insert 62 (.tmp 3) (.const (.string ⟨⟨[101,97,99,104]⟩⟩)) (.tmp 59)]
def s27_5:GC:=.seq (.ops (rg f27 0)) (.seq (.iplan p27_0 p27_1 i27_2) .ret)
def F27:=@Fof 27 1 61 f27 s27_5 [.tmp 2] (fun _ _=>rfl) (by kernel_rfl) (by kernel_rfl) rfl rfl (by decide)
def s29_3:GC:=.seq (.ops (rg f29 0)) (.seq (.ops (rg f29 1)) .ret)
def F29:=@Fof 29 1 5 f29 s29_3 [.tmp 2] (fun _ _=>rfl) (by kernel_rfl) (by kernel_rfl) rfl rfl (by decide)
def s30_12:GC:=.seq (.ops (rg f30 5)) (.cond (.tmp 14) (.seq (.ops (rg f30 6)) (.seq (.ops (rg f30 7)) .ret)) .skip)
def s30_15:GC:=.seq (.ops (rg f30 2)) (.cond (.tmp 7) (.seq (.ops (rg f30 3)) (.seq (.ops (rg f30 4)) .ret)) s30_12)
def s30_21:GC:=.seq (.ops (rg f30 0)) (.seq ((.seq (.ops (rg f30 1)) (.block 0 s30_15))) (.seq (.ops (rg f30 0)) .ret))
def F30:=@Fof 30 1 20 f30 s30_21 [.tmp 2] (fun _ _=>rfl) (by kernel_rfl) (by kernel_rfl) rfl rfl (by decide)
def s31_5:GC:=.seq (.ops (rg f31 0)) (.seq (.ops (rg f31 1)) (.seq (.ops (rg f31 2)) .ret))
def F31:=@Fof 31 1 11 f31 s31_5 [.tmp 2] (fun _ _=>rfl) (by kernel_rfl) (by kernel_rfl) rfl rfl (by decide)
def s32_11:GC:=.seq ((.seq (.ops (rg f32 6)) (.cond (.tmp 21) (.ops (rg f32 7)) .skip))) (.ops (rg f32 8))
def s32_18:GC:=.seq ((.seq (.ops (rg f32 3)) (.cond (.tmp 11) .skip (.exit 0)))) (.seq (.block 1 (.seq (.ops (rg f32 5)) s32_11)) (.ops (rg f32 4)))
def s32_25:GC:=.seq (.ops (rg f32 1)) (.seq ((.seq (.ops (rg f32 2)) (.block 0 (.loop s32_18)))) (.seq (.ops (rg f32 9)) .ret))
def s32_27:GC:=.seq (.ops (rg f32 0)) s32_25
def F32:=@Fof 32 1 37 f32 s32_27 [.tmp 2] (fun _ _=>rfl) (by kernel_rfl) (by kernel_rfl) rfl rfl (by decide)
def p33_0:=pg f33 3 [(0,[]),(1,[]),(3,[]),(4,[]),(6,[]),(7,[]),(2,[4,7]),(5,[7]),(8,[]),(9,[]),(10,[]),(11,[])]
def s33_7:GC:=.seq ((.seq (.ops (rg f33 1)) (.cond (.tmp 5) (.seq (.ops (rg f33 2)) .ret) .skip))) (.seq (.plan p33_0) .ret)
def s33_9:GC:=.seq (.ops (rg f33 0)) s33_7
def F33:=@Fof 33 1 17 f33 s33_9 [.tmp 2] (fun _ _=>rfl) (by kernel_rfl) (by kernel_rfl) rfl rfl (by decide)
def p34_0:=pg f34 1 [(0,[]),(1,[]),(2,[]),(3,[]),(4,[]),(5,[]),(6,[]),(7,[]),(8,[]),(9,[]),(10,[]),(11,[])]
def s34_3:GC:=.seq (.ops (rg f34 0)) (.seq (.plan p34_0) .ret)
def F34:=@Fof 34 1 14 f34 s34_3 [.tmp 2] (fun _ _=>rfl) (by kernel_rfl) (by kernel_rfl) rfl rfl (by decide)
def s35_7:GC:=.seq ((.seq (.ops (rg f35 4)) (.cond (.tmp 13) (.seq (.ops (rg f35 5)) .ret) .skip))) (.seq (.ops (rg f35 6)) .ret)
def s35_13:GC:=.seq ((.seq (.ops (rg f35 2)) (.cond (.tmp 11) (.seq (.ops (rg f35 3)) .ret) .skip))) s35_7
def s35_17:GC:=.seq (.ops (rg f35 0)) (.seq (.ops (rg f35 1)) s35_13)
def F35:=@Fof 35 1 14 f35 s35_17 [.tmp 2] (fun _ _=>rfl) (by kernel_rfl) (by kernel_rfl) rfl rfl (by decide)
def s36_9:GC:=.cond (.tmp 10) (.seq (.ops (rg f36 3)) .ret) (.seq (.ops (rg f36 4)) (.cond (.tmp 13) (.seq (.ops (rg f36 5)) .ret) .skip))
def s36_15:GC:=.seq ((.seq (.ops (rg f36 1)) (.block 0 (.seq (.ops (rg f36 2)) s36_9)))) (.seq (.ops (rg f36 6)) .ret)
def s36_17:GC:=.seq (.ops (rg f36 0)) s36_15
def F36:=@Fof 36 1 16 f36 s36_17 [.tmp 2] (fun _ _=>rfl) (by kernel_rfl) (by kernel_rfl) rfl rfl (by decide)
def s37_3:GC:=.seq (.ops (rg f37 0)) (.seq (.ops (rg f37 1)) .ret)
def F37:=@Fof 37 2 9 f37 s37_3 [.tmp 4] (fun _ _=>rfl) (by kernel_rfl) (by kernel_rfl) rfl rfl (by decide)
def s38_3:GC:=.seq (.ops (rg f38 0)) (.seq (.ops (rg f38 1)) .ret)
def F38:=@Fof 38 1 6 f38 s38_3 [.tmp 2] (fun _ _=>rfl) (by kernel_rfl) (by kernel_rfl) rfl rfl (by decide)
def s39_3:GC:=.seq (.ops (rg f39 0)) (.seq (.ops (rg f39 1)) .ret)
def F39:=@Fof 39 1 11 f39 s39_3 [.tmp 2] (fun _ _=>rfl) (by kernel_rfl) (by kernel_rfl) rfl rfl (by decide)
def s42_5:GC:=.seq (.ops (rg f42 0)) (.seq (.ops (rg f42 1)) (.seq (.ops (rg f42 2)) .ret))
def F42:=@Fof 42 1 12 f42 s42_5 [.cell 2 35] (fun _ _=>rfl) (by kernel_rfl) (by kernel_rfl) rfl rfl (by decide)
def s43_11:GC:=.cond (.tmp 15) (.seq (.ops (rg f43 3)) (.ops (rg f43 4))) (.seq (.ops (rg f43 5)) (.cond (.tmp 22) (.seq (.ops (rg f43 6)) (.ops (rg f43 7))) .skip))
def s43_16:GC:=.seq (.ops (rg f43 1)) (.block 0 (.seq (.ops (rg f43 2)) s43_11))
def s43_18:GC:=.seq (.ops (rg f43 0)) s43_16
def F43:=@Fof 43 2 27 f43 s43_18 [] (fun _ _=>rfl) (by kernel_rfl) (by kernel_rfl) rfl rfl (by decide)
def s44_9:GC:=.cond (.tmp 43) (.seq (.ops (rg f44 12)) .ret) (.seq (.ops (rg f44 13)) (.cond (.tmp 48) (.seq (.ops (rg f44 14)) .ret) .skip))
def s44_12:GC:=.seq (.block 3 (.seq (.ops (rg f44 11)) s44_9)) (.seq (.ops (rg f44 15)) .ret)
def s44_14:GC:=.ops (rg f44 10)
def s44_16:GC:=.ops (rg f44 9)
def s44_22:GC:=.cond (.tmp 17) (.exit 1) (.seq (.ops (rg f44 7)) (.cond (.tmp 20) (.seq (.ops (rg f44 8)) (.exit 1)) .skip))
def s44_29:GC:=.seq (.ops (rg f44 4)) (.seq (.ops (rg f44 5)) (.seq (.block 2 (.seq (.ops (rg f44 6)) s44_22)) s44_16))
def s44_34:GC:=.seq (.ops (rg f44 3)) (.seq ((.cond (.tmp 12) .skip (.exit 0))) (.seq (.block 1 s44_29) s44_14))
def s44_42:GC:=.seq (.ops (rg f44 1)) (.seq (.skip) (.seq ((.seq (.ops (rg f44 2)) (.block 0 (.loop s44_34)))) s44_12))
def s44_44:GC:=.seq (.ops (rg f44 0)) s44_42
def F44:=@Fof 44 1 53 f44 s44_44 [.tmp 2,.tmp 3] (fun _ _=>rfl) (by kernel_rfl) (by kernel_rfl) rfl rfl (by decide)
def p45_0:=pg f45 1 [(0,[]),(1,[]),(3,[]),(4,[]),(6,[]),(7,[]),(9,[]),(10,[]),(12,[]),(13,[]),(15,[]),(16,[]),(18,[]),(19,[]),(21,[]),(22,[]),(24,[]),(25,[]),(27,[]),(28,[]),(30,[]),(31,[]),(33,[]),(34,[]),(36,[]),(37,[]),(39,[]),(40,[]),(2,[4,7,10,13,16,19,22,25,28,31,34,37,40]),(5,[7,10,13,16,19,22,25,28,31,34,37,40]),(8,[10,13,16,19,22,25,28,31,34,37,40]),(11,[13,16,19,22,25,28,31,34,37,40]),(14,[16,19,22,25,28,31,34,37,40]),(17,[19,22,25,28,31,34,37,40]),(20,[22,25,28,31,34,37,40]),(23,[25,28,31,34,37,40]),(26,[28,31,34,37,40]),(29,[31,34,37,40]),(32,[34,37,40]),(35,[37,40]),(38,[40]),(41,[]),(42,[]),(43,[])]
def s45_1:GC:=.seq (.plan p45_0) .ret
def s45_3:GC:=.seq (.ops (rg f45 0)) s45_1
def F45:=@Fof 45 1 46 f45 s45_3 [.tmp 2] (fun _ _=>rfl) (by kernel_rfl) (by kernel_rfl) rfl rfl (by decide)
def s46_3:GC:=.seq (.ops (rg f46 0)) (.seq (.ops (rg f46 1)) .ret)
def F46:=@Fof 46 0 2 f46 s46_3 [.tmp 0] (fun _ _=>rfl) (by kernel_rfl) (by kernel_rfl) rfl rfl (by decide)
def s47_11:GC:=.seq ((.seq (.ops (rg f47 6)) (.cond (.tmp 20) (.ops (rg f47 7)) .skip))) (.ops (rg f47 8))
def s47_18:GC:=.seq ((.seq (.ops (rg f47 3)) (.cond (.tmp 9) .skip (.exit 0)))) (.seq (.block 1 (.seq (.ops (rg f47 5)) s47_11)) (.ops (rg f47 4)))
def s47_25:GC:=.seq (.ops (rg f47 1)) (.seq ((.seq (.ops (rg f47 2)) (.block 0 (.loop s47_18)))) (.seq (.ops (rg f47 9)) .ret))
def s47_27:GC:=.seq (.ops (rg f47 0)) s47_25
def F47:=@Fof 47 1 30 f47 s47_27 [.tmp 2] (fun _ _=>rfl) (by kernel_rfl) (by kernel_rfl) rfl rfl (by decide)
def p48_0:=pg f48 9 [(0,[]),(1,[]),(2,[]),(3,[]),(4,[]),(5,[])]
def s48_11:GC:=.seq (.block 1 (.seq (.ops (rg f48 6)) (.cond (.tmp 16) (.seq (.ops (rg f48 7)) (.ops (rg f48 8))) .skip))) (.ops (rg f48 5))
def s48_17:GC:=.block 0 (.loop (.seq ((.seq (.ops (rg f48 4)) (.cond (.tmp 10) .skip (.exit 0)))) s48_11))
def s48_24:GC:=.seq (.ops (rg f48 1)) (.seq (.ops (rg f48 2)) (.seq ((.seq (.ops (rg f48 3)) s48_17)) (.seq (.plan p48_0) .ret)))
def s48_26:GC:=.seq (.ops (rg f48 0)) s48_24
def F48:=@Fof 48 1 30 f48 s48_26 [.tmp 2,.tmp 3] (fun _ _=>rfl) (by kernel_rfl) (by kernel_rfl) rfl rfl (by decide)
def s49_1:GC:=.seq (.ops (rg f49 14)) .ret
def s49_3:GC:=.ops (rg f49 4)
def s49_5:GC:=.ops (rg f49 13)
def p49_8:=pg f49 12 [(0,[]),(1,[]),(2,[]),(3,[]),(4,[]),(5,[]),(7,[]),(8,[]),(9,[]),(10,[]),(11,[]),(6,[10]),(12,[]),(13,[]),(14,[]),(15,[]),(16,[])]
def s49_14:GC:=.seq ((.seq (.ops (rg f49 10)) (.cond (.tmp 40) .skip (.exit 2)))) (.seq (.block 3 (.plan p49_8)) (.ops (rg f49 11)))
def s49_20:GC:=.seq (.ops (rg f49 8)) (.seq (.ops (rg f49 9)) (.block 2 (.loop s49_14)))
def s49_24:GC:=.seq ((.seq (.ops (rg f49 7)) (.cond (.tmp 29) s49_20 .skip))) s49_5
def s49_33:GC:=.seq ((.seq (.ops (rg f49 3)) (.cond (.tmp 12) .skip (.exit 0)))) (.seq (.block 1 (.seq (.ops (rg f49 5)) (.seq (.ops (rg f49 6)) s49_24))) s49_3)
def s49_42:GC:=.seq (.ops (rg f49 0)) (.seq (.ops (rg f49 1)) (.seq ((.seq (.ops (rg f49 2)) (.block 0 (.loop s49_33)))) s49_1))
def F49:=@Fof 49 1 64 f49 s49_42 [.tmp 2] (fun _ _=>rfl) (by kernel_rfl) (by kernel_rfl) rfl rfl (by decide)
def p50_0:=pg f50 3 [(0,[]),(1,[]),(5,[]),(6,[]),(10,[]),(11,[]),(2,[6,11]),(3,[]),(4,[]),(7,[11]),(8,[]),(9,[]),(12,[]),(13,[]),(14,[])]
def s50_7:GC:=.seq ((.seq (.ops (rg f50 1)) (.cond (.tmp 5) (.seq (.ops (rg f50 2)) .ret) .skip))) (.seq (.plan p50_0) .ret)
def s50_9:GC:=.seq (.ops (rg f50 0)) s50_7
def F50:=@Fof 50 1 20 f50 s50_9 [.tmp 2] (fun _ _=>rfl) (by kernel_rfl) (by kernel_rfl) rfl rfl (by decide)
def s57_3:GC:=.seq (.ops (rg f57 0)) (.seq (.ops (rg f57 1)) .ret)
def F57:=@Fof 57 1 24 f57 s57_3 [.tmp 2] (fun _ _=>rfl) (by kernel_rfl) (by kernel_rfl) rfl rfl (by decide)
def s58_3:GC:=.seq (.ops (rg f58 0)) (.seq (.ops (rg f58 1)) .ret)
def F58:=@Fof 58 1 12 f58 s58_3 [.tmp 2] (fun _ _=>rfl) (by kernel_rfl) (by kernel_rfl) rfl rfl (by decide)
def p59_0:=pg f59 1 [(0,[]),(1,[]),(2,[]),(3,[]),(4,[]),(5,[]),(6,[]),(7,[]),(8,[]),(9,[]),(10,[]),(11,[]),(12,[]),(13,[]),(14,[]),(15,[]),(16,[]),(17,[]),(18,[]),(19,[]),(20,[]),(21,[]),(22,[]),(23,[]),(24,[]),(25,[]),(26,[]),(27,[]),(28,[]),(29,[]),(30,[]),(31,[]),(32,[]),(33,[]),(34,[]),(35,[]),(36,[]),(37,[]),(38,[]),(39,[]),(40,[]),(41,[]),(42,[]),(43,[]),(44,[]),(45,[]),(46,[]),(47,[]),(48,[]),(49,[]),(50,[]),(51,[]),(52,[]),(53,[]),(54,[]),(55,[]),(56,[]),(57,[]),(58,[]),(59,[]),(60,[]),(61,[]),(62,[]),(63,[]),(64,[]),(65,[]),(66,[]),(67,[]),(68,[]),(69,[]),(70,[]),(71,[])]
def s59_3:GC:=.seq (.ops (rg f59 0)) (.seq (.plan p59_0) .ret)
def F59:=@Fof 59 1 74 f59 s59_3 [.cell 2 101] (fun _ _=>rfl) (by kernel_rfl) (by kernel_rfl) rfl rfl (by decide)
def s66_3:GC:=.seq (.ops (rg f66 0)) (.seq (.ops (rg f66 1)) .ret)
def F66:=@Fof 66 1 5 f66 s66_3 [.tmp 2] (fun _ _=>rfl) (by kernel_rfl) (by kernel_rfl) rfl rfl (by decide)
def s67_3:GC:=.seq (.ops (rg f67 0)) (.seq (.ops (rg f67 1)) .ret)
def F67:=@Fof 67 2 8 f67 s67_3 [.tmp 4] (fun _ _=>rfl) (by kernel_rfl) (by kernel_rfl) rfl rfl (by decide)
def p68_4:=pg f68 8 [(0,[]),(1,[]),(2,[]),(3,[]),(5,[]),(6,[]),(7,[]),(9,[]),(10,[]),(11,[]),(13,[]),(14,[]),(16,[]),(17,[]),(19,[]),(20,[]),(21,[]),(22,[]),(25,[])]
def p68_5:=pg f68 8 [(4,[6,10,13,16,20]),(8,[2,10,13,16,20]),(12,[2,6,13,16,20]),(15,[2,6,10,16,20]),(18,[2,6,10,20]),(23,[2,6,10,13,16]),(24,[]),(26,[]),(27,[])]
def i68_6:List Op:=[.insert 148 (.tmp 41) (.const (.int .i32 97)) (.tmp 44),.insert 148 (.tmp 41) (.const (.int .i32 98)) (.tmp 47),.insert 148 (.tmp 41) (.const (.int .i32 99)) (.tmp 50),.insert 148 (.tmp 41) (.const (.int .i32 110)) (.tmp 52),.insert 148 (.tmp 41) (.const (.int .i32 100)) (.tmp 54),.insert 148 (.tmp 41) (.const (.int .i32 107)) (.tmp 58)]
def s68_12:GC:=.seq ((.cond (.tmp 39) .skip (.exit 0))) (.block 1 (.seq (.ops (rg f68 7)) (.seq (.iplan p68_4 p68_5 i68_6) (.ops (rg f68 9)))))
def s68_19:GC:=.seq ((.seq (.ops (rg f68 5)) (.block 0 (.loop (.seq (.ops (rg f68 6)) s68_12))))) (.seq (.ops (rg f68 10)) .ret)
def p68_23:=pg f68 3 [(0,[]),(1,[]),(2,[]),(3,[]),(4,[]),(6,[]),(5,[6]),(7,[]),(8,[])]
def s68_27:GC:=.seq (.ops (rg f68 2)) (.seq ((.seq (.plan p68_23) (.cond (.tmp 35) (.seq (.ops (rg f68 0)) .ret) .skip))) s68_19)
def s68_31:GC:=.seq (.ops (rg f68 0)) (.seq (.ops (rg f68 1)) s68_27)
def F68:=@Fof 68 2 68 f68 s68_31 [.tmp 4,.tmp 5] (fun _ _=>rfl) (by kernel_rfl) (by kernel_rfl) rfl rfl (by decide)
def p69_4:=pg f69 5 [(0,[]),(1,[]),(2,[]),(3,[]),(4,[]),(5,[]),(6,[]),(7,[]),(8,[]),(9,[])]
def s69_10:GC:=.seq ((.cond (.tmp 11) .skip (.exit 0))) (.seq (.block 1 (.seq (.ops (rg f69 4)) (.plan p69_4))) (.ops (rg f69 6)))
def s69_17:GC:=.seq ((.seq (.ops (rg f69 2)) (.block 0 (.loop (.seq (.ops (rg f69 3)) s69_10))))) (.seq (.ops (rg f69 7)) .ret)
def s69_21:GC:=.seq (.ops (rg f69 0)) (.seq (.ops (rg f69 1)) s69_17)
def F69:=@Fof 69 1 26 f69 s69_21 [.tmp 2] (fun _ _=>rfl) (by kernel_rfl) (by kernel_rfl) rfl rfl (by decide)
def s70_9:GC:=.seq (.block 3 (.seq (.ops (rg f70 11)) (.cond (.tmp 41) (.seq (.ops (rg f70 12)) .ret) .skip))) (.ops (rg f70 10))
def s70_17:GC:=.seq (.ops (rg f70 8)) (.block 2 (.loop (.seq ((.seq (.ops (rg f70 9)) (.cond (.tmp 32) .skip (.exit 2)))) s70_9)))
def s70_24:GC:=.seq ((.seq (.ops (rg f70 6)) (.cond (.tmp 27) (.seq (.ops (rg f70 7)) .ret) .skip))) (.seq (s70_17) (.seq (.ops (rg f70 13)) .ret))
def s70_32:GC:=.seq (.block 1 (.seq (.ops (rg f70 4)) (.cond (.tmp 13) (.seq (.ops (rg f70 5)) .ret) .skip))) (.ops (rg f70 3))
def s70_40:GC:=.seq (.ops (rg f70 1)) (.block 0 (.loop (.seq ((.seq (.ops (rg f70 2)) (.cond (.tmp 7) .skip (.exit 0)))) s70_32)))
def s70_43:GC:=.seq (.ops (rg f70 0)) (.seq (s70_40) s70_24)
def F70:=@Fof 70 1 43 f70 s70_43 [.tmp 2,.tmp 3] (fun _ _=>rfl) (by kernel_rfl) (by kernel_rfl) rfl rfl (by decide)
def s71_7:GC:=.seq ((.seq (.ops (rg f71 11)) (.cond (.tmp 31) (.seq (.ops (rg f71 12)) .ret) .skip))) (.seq (.ops (rg f71 13)) .ret)
def s71_16:GC:=.seq (.ops (rg f71 7)) (.seq (.ops (rg f71 8)) (.cond (.tmp 26) (.seq (.ops (rg f71 9)) .ret) .skip))
def s71_26:GC:=.seq (.ops (rg f71 3)) (.seq (.ops (rg f71 4)) (.cond (.tmp 14) (.seq (.ops (rg f71 5)) .ret) .skip))
def s71_31:GC:=.seq (.ops (rg f71 2)) (.seq ((.cond (.tmp 10) .skip (.exit 0))) (.seq (.block 1 s71_26) (.ops (rg f71 6))))
def s71_36:GC:=.seq ((.seq (.ops (rg f71 1)) (.block 0 (.loop s71_31)))) (.seq (s71_16) (.seq (.ops (rg f71 10)) s71_7))
def s71_38:GC:=.seq (.ops (rg f71 0)) s71_36
def F71:=@Fof 71 1 33 f71 s71_38 [.tmp 2,.tmp 3] (fun _ _=>rfl) (by kernel_rfl) (by kernel_rfl) rfl rfl (by decide)
def s72_10:GC:=.seq (.ops (rg f72 3)) (.seq (.ops (rg f72 4)) (.cond (.tmp 16) (.seq (.ops (rg f72 5)) .ret) .skip))
def s72_15:GC:=.seq (.ops (rg f72 2)) (.seq ((.cond (.tmp 9) .skip (.exit 0))) (.seq (.block 1 s72_10) (.ops (rg f72 6))))
def s72_22:GC:=.seq (.ops (rg f72 0)) (.seq ((.seq (.ops (rg f72 1)) (.block 0 (.loop s72_15)))) (.seq (.ops (rg f72 7)) .ret))
def F72:=@Fof 72 2 19 f72 s72_22 [.tmp 4] (fun _ _=>rfl) (by kernel_rfl) (by kernel_rfl) rfl rfl (by decide)
def s75_9:GC:=.seq ((.seq (.ops (rg f75 1)) (.cond (.tmp 9) (.seq (.ops (rg f75 0)) .ret) .skip))) (.seq (.ops (rg f75 3)) (.seq (.ops (rg f75 4)) .ret))
def s75_11:GC:=.seq (.ops (rg f75 0)) s75_9
def F75:=@Fof 75 2 19 f75 s75_11 [.tmp 3] (fun _ _=>rfl) (by kernel_rfl) (by kernel_rfl) rfl rfl (by decide)
def s77_7:GC:=.seq ((.seq (.ops (rg f77 2)) (.cond (.tmp 18) (.seq (.ops (rg f77 3)) .ret) .skip))) (.seq (.ops (rg f77 4)) .ret)
def s77_11:GC:=.seq (.ops (rg f77 0)) (.seq (.ops (rg f77 1)) s77_7)
def F77:=@Fof 77 3 26 f77 s77_11 [.tmp 6,.tmp 7] (fun _ _=>rfl) (by kernel_rfl) (by kernel_rfl) rfl rfl (by decide)
def p78_4:=pg f78 4 [(0,[]),(1,[]),(2,[]),(3,[]),(7,[]),(8,[]),(9,[]),(10,[]),(4,[]),(5,[]),(6,[]),(11,[]),(12,[]),(13,[]),(14,[]),(15,[]),(16,[]),(17,[])]
def s78_10:GC:=.seq ((.seq (.ops (rg f78 2)) (.cond (.tmp 8) .skip (.exit 0)))) (.seq (.block 1 (.plan p78_4)) (.ops (rg f78 3)))
def s78_17:GC:=.seq (.ops (rg f78 0)) (.seq ((.seq (.ops (rg f78 1)) (.block 0 (.loop s78_10)))) (.seq (.ops (rg f78 5)) .ret))
def F78:=@Fof 78 1 29 f78 s78_17 [.tmp 2] (fun _ _=>rfl) (by kernel_rfl) (by kernel_rfl) rfl rfl (by decide)
def s79_10:GC:=.seq ((.cond (.tmp 8) .skip (.exit 0))) (.seq (.block 1 (.seq (.ops (rg f79 3)) (.ops (rg f79 4)))) (.ops (rg f79 5)))
def s79_17:GC:=.seq ((.seq (.ops (rg f79 1)) (.block 0 (.loop (.seq (.ops (rg f79 2)) s79_10))))) (.seq (.ops (rg f79 6)) .ret)
def s79_19:GC:=.seq (.ops (rg f79 0)) s79_17
def F79:=@Fof 79 1 24 f79 s79_19 [.tmp 2] (fun _ _=>rfl) (by kernel_rfl) (by kernel_rfl) rfl rfl (by decide)
def r80_2:List GO:=[⟨none,some 24,.extract (.tmp 23) 0⟩]
def s80_14:GC:=.cond (.tmp 63) (.ops (rg f80 19)) (.seq (.ops (rg f80 20)) (.cond (.tmp 68) (.ops (rg f80 21)) (.ops (rg f80 15))))
def s80_19:GC:=.seq (.ops (rg f80 16)) (.cond (.tmp 58) (.ops (rg f80 17)) (.seq (.ops (rg f80 18)) s80_14))
def s80_26:GC:=.seq (.ops (rg f80 12)) (.seq (.ops (rg f80 13)) (.seq (.ops (rg f80 14)) (.block 4 s80_19)))
def s80_31:GC:=.seq (.ops (rg f80 11)) (.seq ((.cond (.tmp 43) .skip (.exit 2))) (.block 3 s80_26))
def s80_35:GC:=.seq (.ops (rg f80 10)) (.block 2 (.loop s80_31))
def s80_41:GC:=.seq ((.seq (.ops (rg f80 8)) (.cond (.tmp 37) (.exit 1) .skip))) (.seq (.ops (rg f80 9)) s80_35)
def s80_48:GC:=.seq ((.cond (.tmp 24) .skip (.exit 0))) (.block 1 (.seq (.ops (rg f80 6)) (.seq (.ops (rg f80 7)) s80_41)))
def s80_49:GC:=.mloop 22 (some 23) r80_2 s80_48 [23,24,25,26,28,29,27,30,31,32,33,34,35,36,37,38,39,40,41,42,43,44,45,46,47,48,49,50,59,60,61,62,64,65,66,67,69,70,71,72,51,52,53,54,55,56,57,58,59,50,10,49,48,47,46,9,8,45,44,43,42,41,40,39,38,37,36,35,34,33,7,6,5,32,31,30,27,29,28,4,26,25,24,23]
def s80_53:GC:=.seq ((.seq (.ops (rg f80 4)) (.block 0 s80_49))) (.seq (.ops (rg f80 22)) .ret)
def s80_59:GC:=.seq ((.seq (.ops (rg f80 2)) (.cond (.tmp 15) (.seq (.ops (rg f80 3)) .ret) .skip))) s80_53
def s80_63:GC:=.seq (.ops (rg f80 0)) (.seq (.ops (rg f80 1)) s80_59)
def F80:=@Fof 80 1 74 f80 s80_63 [.cell 2 125] (fun _ _=>rfl) (by kernel_rfl) (by kernel_rfl) rfl rfl (by decide)
def s81_7:GC:=.seq ((.seq (.ops (rg f81 1)) (.cond (.tmp 4) (.seq (.ops (rg f81 2)) .ret) .skip))) (.seq (.ops (rg f81 3)) .ret)
def s81_9:GC:=.seq (.ops (rg f81 0)) s81_7
def F81:=@Fof 81 1 15 f81 s81_9 [.tmp 2] (fun _ _=>rfl) (by kernel_rfl) (by kernel_rfl) rfl rfl (by decide)
def p82_0:=pg f82 3 [(0,[]),(1,[]),(3,[]),(4,[]),(5,[]),(6,[]),(7,[]),(8,[]),(2,[8]),(9,[]),(10,[])]
def s82_7:GC:=.seq ((.seq (.ops (rg f82 1)) (.cond (.tmp 4) (.seq (.ops (rg f82 2)) .ret) .skip))) (.seq (.plan p82_0) .ret)
def s82_9:GC:=.seq (.ops (rg f82 0)) s82_7
def F82:=@Fof 82 1 20 f82 s82_9 [.tmp 2] (fun _ _=>rfl) (by kernel_rfl) (by kernel_rfl) rfl rfl (by decide)
def s83_7:GC:=.seq ((.seq (.ops (rg f83 6)) (.cond (.tmp 62) (.seq (.ops (rg f83 7)) .ret) .skip))) (.seq (.ops (rg f83 8)) .ret)
def p83_8:=pg f83 5 [(0,[]),(1,[]),(2,[]),(3,[]),(4,[]),(5,[]),(6,[]),(7,[]),(8,[]),(9,[]),(10,[]),(11,[]),(12,[]),(13,[]),(14,[]),(15,[]),(16,[]),(17,[]),(18,[]),(19,[]),(20,[]),(21,[]),(22,[]),(23,[]),(24,[]),(25,[])]
def s83_15:GC:=.seq ((.seq (.ops (rg f83 3)) (.cond (.tmp 34) (.seq (.ops (rg f83 4)) .ret) .skip))) (.seq (.plan p83_8) s83_7)
def s83_21:GC:=.seq ((.seq (.ops (rg f83 1)) (.cond (.tmp 19) (.seq (.ops (rg f83 2)) .ret) .skip))) s83_15
def s83_23:GC:=.seq (.ops (rg f83 0)) s83_21
def F83:=@Fof 83 2 65 f83 s83_23 [.cell 4 125,.tmp 5] (fun _ _=>rfl) (by kernel_rfl) (by kernel_rfl) rfl rfl (by decide)
def p84_4:=pg f84 6 [(0,[]),(1,[]),(2,[]),(6,[]),(3,[6]),(4,[]),(5,[]),(7,[]),(8,[]),(9,[]),(10,[])]
def p84_14:=pg f84 16 [(0,[]),(1,[]),(2,[]),(6,[]),(3,[6]),(4,[]),(5,[]),(7,[]),(8,[]),(9,[]),(10,[])]
def s84_23:GC:=.cond (.tmp 98) (.seq (.ops (rg f84 18)) .ret) (.seq (.ops (rg f84 19)) (.cond (.tmp 116) (.seq (.ops (rg f84 20)) .ret) .skip))
def s84_28:GC:=.seq (.ops (rg f84 15)) (.cond (.tmp 85) (.seq (.plan p84_14) .ret) (.seq (.ops (rg f84 17)) s84_23))
def s84_32:GC:=.cond (.tmp 62) (.seq (.ops (rg f84 12)) .ret) (.seq (.ops (rg f84 13)) (.cond (.tmp 73) (.seq (.ops (rg f84 14)) .ret) s84_28))
def s84_37:GC:=.seq (.ops (rg f84 9)) (.cond (.tmp 51) (.seq (.ops (rg f84 10)) .ret) (.seq (.ops (rg f84 11)) s84_32))
def s84_41:GC:=.cond (.tmp 27) (.seq (.plan p84_4) .ret) (.seq (.ops (rg f84 7)) (.cond (.tmp 40) (.seq (.ops (rg f84 8)) .ret) s84_37))
def s84_46:GC:=.seq (.ops (rg f84 3)) (.cond (.tmp 21) (.seq (.ops (rg f84 4)) .ret) (.seq (.ops (rg f84 5)) s84_41))
def s84_47:GC:=.seq (.block 0 s84_46) (.seq (.ops (rg f84 21)) .ret)
def s84_53:GC:=.seq (.ops (rg f84 0)) (.seq (.ops (rg f84 1)) (.seq (.ops (rg f84 2)) s84_47))
def F84:=@Fof 84 1 130 f84 s84_53 [.tmp 2] (fun _ _=>rfl) (by kernel_rfl) (by kernel_rfl) rfl rfl (by decide)
def s85_7:GC:=.seq ((.seq (.ops (rg f85 1)) (.cond (.tmp 4) (.seq (.ops (rg f85 2)) .ret) .skip))) (.seq (.ops (rg f85 3)) .ret)
def s85_9:GC:=.seq (.ops (rg f85 0)) s85_7
def F85:=@Fof 85 1 10 f85 s85_9 [.tmp 2] (fun _ _=>rfl) (by kernel_rfl) (by kernel_rfl) rfl rfl (by decide)
def s91_3:GC:=.seq (.ops (rg f91 0)) (.seq (.ops (rg f91 1)) .ret)
def F91:=@Fof 91 1 5 f91 s91_3 [.tmp 2] (fun _ _=>rfl) (by kernel_rfl) (by kernel_rfl) rfl rfl (by decide)
def s92_11:GC:=.seq (.ops (rg f92 4)) (.seq (.ops (rg f92 5)) (.seq (.ops (rg f92 6)) (.seq (.ops (rg f92 7)) .ret)))
def s92_17:GC:=.seq ((.seq (.ops (rg f92 2)) (.cond (.tmp 12) (.seq (.ops (rg f92 3)) .ret) .skip))) s92_11
def s92_21:GC:=.seq ((.seq (.ops (rg f92 1)) (.cond (.tmp 10) s92_17 .skip))) (.seq (.ops (rg f92 8)) (.seq (.ops (rg f92 9)) .ret))
def s92_23:GC:=.seq (.ops (rg f92 0)) s92_21
def F92:=@Fof 92 2 32 f92 s92_23 [.tmp 4] (fun _ _=>rfl) (by kernel_rfl) (by kernel_rfl) rfl rfl (by decide)
def s93_8:GC:=.seq (.ops (rg f93 13)) (.seq (.ops (rg f93 14)) (.cond (.tmp 81) (.seq (.ops (rg f93 15)) .ret) .skip))
def s93_15:GC:=.seq (.ops (rg f93 11)) (.seq ((.cond (.tmp 68) .skip (.exit 1))) (.block 2 (.seq (.ops (rg f93 12)) s93_8)))
def s93_20:GC:=.seq ((.seq (.ops (rg f93 10)) (.block 1 (.loop s93_15)))) (.seq (.ops (rg f93 16)) .ret)
def s93_26:GC:=.seq ((.seq (.ops (rg f93 8)) (.cond (.tmp 63) (.seq (.ops (rg f93 9)) .ret) .skip))) s93_20
def s93_28:GC:=.seq (.ops (rg f93 7)) s93_26
def p93_29:=pg f93 6 [(0,[]),(1,[]),(2,[]),(3,[]),(4,[]),(5,[]),(6,[]),(7,[]),(8,[]),(9,[]),(10,[]),(11,[]),(12,[]),(13,[]),(14,[])]
def s93_32:GC:=.seq (.ops (rg f93 5)) (.seq (.plan p93_29) s93_28)
def s93_40:GC:=.cond (.tmp 14) (.seq (.ops (rg f93 2)) .ret) (.seq (.ops (rg f93 3)) (.cond (.tmp 27) (.seq (.ops (rg f93 4)) .ret) .skip))
def s93_45:GC:=.seq (.ops (rg f93 0)) (.seq (.block 0 (.seq (.ops (rg f93 1)) s93_40)) s93_32)
def F93:=@Fof 93 2 84 f93 s93_45 [.cell 4 125,.tmp 5] (fun _ _=>rfl) (by kernel_rfl) (by kernel_rfl) rfl rfl (by decide)
def p95_8:=pg f95 14 [(0,[]),(1,[]),(2,[]),(3,[]),(4,[]),(5,[3]),(6,[]),(7,[])]
def s95_16:GC:=.seq ((.seq (.ops (rg f95 12)) (.cond (.tmp 32) .skip (.ops (rg f95 13))))) (.cond (.tmp 32) (.plan p95_8) .skip)
def s95_20:GC:=.cond (.tmp 22) (.ops (rg f95 9)) (.seq (.ops (rg f95 10)) (.cond (.tmp 27) (.ops (rg f95 11)) s95_16))
def s95_26:GC:=.block 2 (.seq (.ops (rg f95 6)) (.cond (.tmp 17) (.ops (rg f95 7)) (.seq (.ops (rg f95 8)) s95_20)))
def s95_33:GC:=.seq ((.cond (.tmp 14) .skip (.exit 0))) (.block 1 (.seq (.ops (rg f95 4)) (.seq (.ops (rg f95 5)) s95_26)))
def s95_40:GC:=.seq ((.seq (.ops (rg f95 2)) (.block 0 (.loop (.seq (.ops (rg f95 3)) s95_33))))) (.seq (.ops (rg f95 15)) .ret)
def s95_44:GC:=.seq (.ops (rg f95 0)) (.seq (.ops (rg f95 1)) s95_40)
def F95:=@Fof 95 2 42 f95 s95_44 [.cell 4 125] (fun _ _=>rfl) (by kernel_rfl) (by kernel_rfl) rfl rfl (by decide)
def s98_7:GC:=.seq ((.seq (.ops (rg f98 12)) (.cond (.tmp 43) (.seq (.ops (rg f98 7)) .ret) .skip))) (.seq (.ops (rg f98 8)) .ret)
def s98_13:GC:=.seq ((.seq (.ops (rg f98 10)) (.cond (.tmp 40) (.seq (.ops (rg f98 5)) .ret) .skip))) s98_7
def s98_23:GC:=.seq ((.seq (.ops (rg f98 6)) (.cond (.tmp 31) (.seq (.ops (rg f98 7)) .ret) .skip))) (.seq (.ops (rg f98 8)) .ret)
def s98_29:GC:=.seq ((.seq (.ops (rg f98 4)) (.cond (.tmp 27) (.seq (.ops (rg f98 5)) .ret) .skip))) s98_23
def s98_35:GC:=.seq ((.seq (.ops (rg f98 2)) (.cond (.tmp 18) (.seq (.ops (rg f98 3)) s98_29) .skip))) (.seq (.ops (rg f98 9)) s98_13)
def p98_36:=pg f98 1 [(1,[]),(5,[]),(0,[]),(2,[]),(3,[]),(4,[3]),(6,[]),(7,[]),(8,[]),(9,[])]
def s98_39:GC:=.seq (.ops (rg f98 0)) (.seq (.plan p98_36) s98_35)
def F98:=@Fof 98 2 44 f98 s98_39 [.tmp 4] (fun _ _=>rfl) (by kernel_rfl) (by kernel_rfl) rfl rfl (by decide)
def s99_12:GC:=.seq (.ops (rg f99 5)) (.cond (.tmp 17) (.seq (.ops (rg f99 6)) (.seq (.ops (rg f99 7)) .ret)) .skip)
def s99_15:GC:=.seq (.ops (rg f99 2)) (.cond (.tmp 8) (.seq (.ops (rg f99 3)) (.seq (.ops (rg f99 4)) .ret)) s99_12)
def s99_21:GC:=.seq (.ops (rg f99 0)) (.seq ((.seq (.ops (rg f99 1)) (.block 0 s99_15))) (.seq (.ops (rg f99 8)) .ret))
def F99:=@Fof 99 1 27 f99 s99_21 [.tmp 2] (fun _ _=>rfl) (by kernel_rfl) (by kernel_rfl) rfl rfl (by decide)
def s100_10:GC:=.seq (.ops (rg f100 3)) (.seq (.ops (rg f100 4)) (.cond (.tmp 16) (.seq (.ops (rg f100 5)) .ret) .skip))
def s100_15:GC:=.seq (.ops (rg f100 2)) (.seq ((.cond (.tmp 9) .skip (.exit 0))) (.seq (.block 1 s100_10) (.ops (rg f100 6))))
def s100_22:GC:=.seq (.ops (rg f100 0)) (.seq ((.seq (.ops (rg f100 1)) (.block 0 (.loop s100_15)))) (.seq (.ops (rg f100 7)) .ret))
def F100:=@Fof 100 2 19 f100 s100_22 [.tmp 4] (fun _ _=>rfl) (by kernel_rfl) (by kernel_rfl) rfl rfl (by decide)
def s101_3:GC:=.seq (.ops (rg f101 0)) (.seq (.ops (rg f101 1)) .ret)
def F101:=@Fof 101 1 6 f101 s101_3 [.tmp 2] (fun _ _=>rfl) (by kernel_rfl) (by kernel_rfl) rfl rfl (by decide)
def s107_7:GC:=.seq ((.seq (.ops (rg f107 56)) (.cond (.tmp 169) (.seq (.ops (rg f107 57)) .ret) .skip))) (.seq (.ops (rg f107 58)) .ret)
def s107_17:GC:=.seq ((.seq (.ops (rg f107 52)) (.cond (.tmp 159) (.seq (.ops (rg f107 53)) .ret) .skip))) (.ops (rg f107 54))
def s107_27:GC:=.seq ((.seq (.ops (rg f107 48)) (.cond (.tmp 141) (.seq (.ops (rg f107 49)) .ret) .skip))) (.seq (.ops (rg f107 50)) (.seq (.ops (rg f107 51)) s107_17))
def s107_33:GC:=.seq ((.seq (.ops (rg f107 46)) (.cond (.tmp 137) (.seq (.ops (rg f107 47)) .ret) .skip))) s107_27
def s107_44:GC:=.seq (.ops (rg f107 44)) (.cond (.tmp 121) (.ops (rg f107 45)) (.seq (.ops (rg f107 39)) .ret))
def s107_48:GC:=.cond (.tmp 106) (.seq (.ops (rg f107 41)) (.exit 4)) (.seq (.ops (rg f107 42)) (.cond (.tmp 112) (.ops (rg f107 43)) s107_44))
def s107_55:GC:=.seq (.ops (rg f107 37)) (.seq (.ops (rg f107 38)) (.seq (.block 5 (.seq (.ops (rg f107 40)) s107_48)) s107_33))
def s107_60:GC:=.seq (.ops (rg f107 36)) (.seq ((.cond (.tmp 102) .skip (.exit 3))) (.seq (.block 4 s107_55) (.ops (rg f107 55))))
def s107_67:GC:=.seq (.ops (rg f107 34)) (.seq ((.seq (.ops (rg f107 35)) (.block 3 (.loop s107_60)))) s107_7)
def s107_81:GC:=.cond (.tmp 90) (.ops (rg f107 29)) (.seq (.ops (rg f107 30)) (.cond (.tmp 92) (.ops (rg f107 31)) (.ops (rg f107 27))))
def s107_87:GC:=.seq ((.seq (.ops (rg f107 26)) (.block 2 (.seq (.ops (rg f107 28)) s107_81)))) (.seq (.ops (rg f107 32)) (.seq (.ops (rg f107 33)) s107_67))
def s107_97:GC:=.cond (.tmp 77) (.ops (rg f107 22)) (.seq (.ops (rg f107 23)) (.cond (.tmp 83) (.seq (.ops (rg f107 24)) .ret) .skip))
def s107_117:GC:=.cond (.tmp 64) (.seq (.ops (rg f107 19)) (.ops (rg f107 20))) (.seq (.ops (rg f107 16)) (.ops (rg f107 11)))
def s107_120:GC:=.cond (.tmp 52) (.seq (.ops (rg f107 16)) (.ops (rg f107 17))) (.seq (.ops (rg f107 18)) s107_117)
def s107_123:GC:=.cond (.tmp 40) (.seq (.ops (rg f107 13)) (.ops (rg f107 14))) (.seq (.ops (rg f107 15)) s107_120)
def s107_129:GC:=.seq (.ops (rg f107 9)) (.cond (.tmp 37) (.block 1 (.seq (.ops (rg f107 12)) s107_123)) .skip)
def s107_136:GC:=.seq (.ops (rg f107 7)) (.cond (.tmp 32) (.seq (.ops (rg f107 8)) s107_129) (.seq (.ops (rg f107 5)) .ret))
def s107_140:GC:=.seq (.block 0 (.seq (.ops (rg f107 6)) (.cond (.tmp 25) .skip s107_136))) (.seq ((.seq (.ops (rg f107 21)) s107_97)) (.seq (.ops (rg f107 25)) s107_87))
def s107_150:GC:=.seq ((.seq (.ops (rg f107 1)) (.cond (.tmp 19) (.seq (.ops (rg f107 2)) .ret) .skip))) (.seq (.ops (rg f107 3)) (.seq (.ops (rg f107 4)) s107_140))
def s107_152:GC:=.seq (.ops (rg f107 0)) s107_150
def F107:=@Fof 107 3 172 f107 s107_152 [.tmp 6,.tmp 7] (fun _ _=>rfl) (by kernel_rfl) (by kernel_rfl) rfl rfl (by decide)
def s109_9:GC:=.seq ((.seq (.ops (rg f109 1)) (.cond (.tmp 9) (.seq (.ops (rg f109 0)) .ret) .skip))) (.seq (.ops (rg f109 3)) (.seq (.ops (rg f109 4)) .ret))
def s109_11:GC:=.seq (.ops (rg f109 0)) s109_9
def F109:=@Fof 109 2 19 f109 s109_11 [.tmp 3] (fun _ _=>rfl) (by kernel_rfl) (by kernel_rfl) rfl rfl (by decide)
def s110_3:GC:=.seq (.ops (rg f110 0)) (.seq (.ops (rg f110 1)) .ret)
def F110:=@Fof 110 0 11 f110 s110_3 [.tmp 0] (fun _ _=>rfl) (by kernel_rfl) (by kernel_rfl) rfl rfl (by decide)
def s111_7:GC:=.seq ((.seq (.ops (rg f111 4)) (.cond (.tmp 30) (.seq (.ops (rg f111 5)) .ret) .skip))) (.seq (.ops (rg f111 6)) .ret)
def s111_13:GC:=.seq ((.seq (.ops (rg f111 2)) (.cond (.tmp 20) (.seq (.ops (rg f111 3)) .ret) .skip))) s111_7
def s111_17:GC:=.seq (.ops (rg f111 0)) (.seq (.ops (rg f111 1)) s111_13)
def F111:=@Fof 111 1 55 f111 s111_17 [.tmp 2] (fun _ _=>rfl) (by kernel_rfl) (by kernel_rfl) rfl rfl (by decide)
def s112_7:GC:=.seq ((.seq (.ops (rg f112 1)) (.cond (.tmp 4) (.seq (.ops (rg f112 2)) .ret) .skip))) (.seq (.ops (rg f112 3)) .ret)
def s112_9:GC:=.seq (.ops (rg f112 0)) s112_7
def F112:=@Fof 112 1 15 f112 s112_9 [.tmp 2] (fun _ _=>rfl) (by kernel_rfl) (by kernel_rfl) rfl rfl (by decide)
def s113_3:GC:=.seq (.ops (rg f113 0)) (.seq (.ops (rg f113 1)) .ret)
def F113:=@Fof 113 1 11 f113 s113_3 [.tmp 2] (fun _ _=>rfl) (by kernel_rfl) (by kernel_rfl) rfl rfl (by decide)
def s114_3:GC:=.seq (.ops (rg f114 0)) (.seq (.ops (rg f114 1)) .ret)
def F114:=@Fof 114 3 21 f114 s114_3 [.tmp 6] (fun _ _=>rfl) (by kernel_rfl) (by kernel_rfl) rfl rfl (by decide)
def s115_7:GC:=.seq ((.seq (.ops (rg f115 2)) (.cond (.tmp 7) (.ops (rg f115 3)) .skip))) (.seq (.ops (rg f115 4)) .ret)
def s115_11:GC:=.seq (.ops (rg f115 0)) (.seq (.ops (rg f115 1)) s115_7)
def F115:=@Fof 115 1 11 f115 s115_11 [.tmp 2] (fun _ _=>rfl) (by kernel_rfl) (by kernel_rfl) rfl rfl (by decide)
def s121_12:GC:=.seq (.ops (rg f121 10)) (.cond (.tmp 34) (.seq (.ops (rg f121 11)) (.seq (.ops (rg f121 12)) .ret)) .skip)
def s121_17:GC:=.seq (.ops (rg f121 8)) (.seq (.ops (rg f121 9)) (.seq (s121_12) (.seq (.ops (rg f121 13)) .ret)))
def s121_25:GC:=.seq (.ops (rg f121 5)) (.seq ((.seq (.ops (rg f121 6)) (.cond (.tmp 23) (.ops (rg f121 7)) .skip))) s121_17)
def s121_33:GC:=.seq ((.seq (.ops (rg f121 2)) (.cond (.tmp 17) (.seq (.ops (rg f121 3)) .ret) .skip))) (.seq (.ops (rg f121 4)) s121_25)
def s121_37:GC:=.seq ((.seq (.ops (rg f121 1)) (.cond (.tmp 11) s121_33 .skip))) (.seq (.ops (rg f121 14)) (.seq (.ops (rg f121 15)) .ret))
def s121_39:GC:=.seq (.ops (rg f121 0)) s121_37
def F121:=@Fof 121 2 54 f121 s121_39 [.tmp 4] (fun _ _=>rfl) (by kernel_rfl) (by kernel_rfl) rfl rfl (by decide)
def s123_5:GC:=.seq (.ops (rg f123 0)) (.seq (.ops (rg f123 1)) (.seq (.ops (rg f123 2)) .ret))
def F123:=@Fof 123 1 15 f123 s123_5 [.tmp 2] (fun _ _=>rfl) (by kernel_rfl) (by kernel_rfl) rfl rfl (by decide)
def s128_3:GC:=.seq (.ops (rg f128 0)) (.seq (.ops (rg f128 1)) .ret)
def F128:=@Fof 128 0 2 f128 s128_3 [.tmp 0] (fun _ _=>rfl) (by kernel_rfl) (by kernel_rfl) rfl rfl (by decide)
def s129_3:GC:=.seq (.ops (rg f129 0)) (.seq (.ops (rg f129 1)) .ret)
def F129:=@Fof 129 0 2 f129 s129_3 [.tmp 0] (fun _ _=>rfl) (by kernel_rfl) (by kernel_rfl) rfl rfl (by decide)
def s130_7:GC:=.seq (.ops (rg f130 0)) (.seq (.ops (rg f130 1)) (.seq (.ops (rg f130 2)) (.seq (.ops (rg f130 3)) .ret)))
def F130:=@Fof 130 3 23 f130 s130_7 [.tmp 6] (fun _ _=>rfl) (by kernel_rfl) (by kernel_rfl) rfl rfl (by decide)
def s131_7:GC:=.seq (.ops (rg f131 0)) (.seq (.ops (rg f131 1)) (.seq (.ops (rg f131 2)) (.seq (.ops (rg f131 3)) .ret)))
def F131:=@Fof 131 3 23 f131 s131_7 [.tmp 6] (fun _ _=>rfl) (by kernel_rfl) (by kernel_rfl) rfl rfl (by decide)
def s141_3:GC:=.seq (.ops (rg f141 0)) (.seq (.ops (rg f141 1)) .ret)
def F141:=@Fof 141 1 5 f141 s141_3 [.tmp 2] (fun _ _=>rfl) (by kernel_rfl) (by kernel_rfl) rfl rfl (by decide)
def p144_0:=pg f144 3 [(0,[]),(1,[]),(3,[]),(4,[]),(5,[]),(6,[]),(7,[]),(8,[]),(2,[8]),(9,[]),(10,[])]
def s144_7:GC:=.seq ((.seq (.ops (rg f144 1)) (.cond (.tmp 4) (.seq (.ops (rg f144 2)) .ret) .skip))) (.seq (.plan p144_0) .ret)
def s144_9:GC:=.seq (.ops (rg f144 0)) s144_7
def F144:=@Fof 144 1 20 f144 s144_9 [.tmp 2] (fun _ _=>rfl) (by kernel_rfl) (by kernel_rfl) rfl rfl (by decide)
def s148_3:GC:=.seq (.ops (rg f148 0)) (.seq (.ops (rg f148 1)) .ret)
def F148:=@Fof 148 1 6 f148 s148_3 [.tmp 2] (fun _ _=>rfl) (by kernel_rfl) (by kernel_rfl) rfl rfl (by decide)
def s150_7:GC:=.seq ((.seq (.ops (rg f150 1)) (.cond (.tmp 3) (.seq (.ops (rg f150 2)) .ret) .skip))) (.seq (.ops (rg f150 0)) .ret)
def s150_9:GC:=.seq (.ops (rg f150 0)) s150_7
def F150:=@Fof 150 1 4 f150 s150_9 [.tmp 2] (fun _ _=>rfl) (by kernel_rfl) (by kernel_rfl) rfl rfl (by decide)
end
end Go.Proofs.YtohjaacnlmkhbaaGreatDoor

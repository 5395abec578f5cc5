/- THE PLAIN MACHINE's FUNCTIONS, walked (16). Conditions: none beyond each theorem's own. -/
import Derived.Test.YthjlppdnlahhoaaGreatP12
import Derived.Test.YthjlppdnlahhoaaGreatP13
set_option linter.unusedSimpArgs false
set_option linter.unusedVariables false
namespace Go.Proofs.YthjlppdnlahhoaaGreat
open Go.Ev
open Pl
set_option maxRecDepth 100000
set_option maxHeartbeats 400000
def nC (l:List UInt8):Value:=.string ⟨l.toArray⟩
def NZ (o a b c:UInt8):Value:=.agg ⟨[bK o,bK a,bK b,bK c]⟩
theorem str9:isStr env 9=true:=c_
def MX (o:Nat):List UInt8×Bool :=
 if o=0 then ([],true) else if o=1 then ([97,110],true) else if o=2∨o=3∨o=4 then ([97,98,99],true) else if o=5 then ([100],true) else if o=6 then ([97,100],true) else if o=7 then ([97],true) else if 17≤o∧o≤38 then ([107],true) else ([],false)
noncomputable def W8 (o:Nat):Bool:=match wX vO 20 86 [.int .u8 (o:Int)]with
 | some (.tuple ⟨[.string _,.string n,.bool b]⟩)=>decide (n.data.toList=(MX o).1)&&b==(MX o).2
 | _=>false
theorem chkS:(List.range 256).all W8=true:=c_
theorem Pv:∀ o,o<256→(MX o).1.length≤3∧(∀ ch∈(MX o).1,ch=97∨ch=98∨ch=99∨ch=110∨ch=100∨ch=107)∧((MX o).2=true→o≤38):=by decide +kernel
theorem Na {o:Nat}(ho:o<256) (h:ak):∃ w,wQ [.int .u8 (o:Int)] h=some (.tuple #[.string w,nC (MX o).1,.bool (MX o).2]):=by
 have hc:=dX.1 chkS o (sj.2 ho);unfold W8 at hc;unfold wQ;split at hc;·rename_i w n b e;simp only[aZ,decide_eq_true_eq,beq_iff_eq]at hc;obtain⟨h2,h3⟩:=hc;rw[e,← h2,← h3];exact⟨w,rfl⟩
 ·cases hc
theorem HI {o:UInt8}{h:ak}{K:Value→ak→Prop}(hK:∀ w,K (.tuple #[.string w,nC (MX o.toNat).1,.bool (MX o.toNat).2]) h):cy env (.func 86) [.int .u8 (o.toNat:Int)] h K:=by obtain⟨w,hw⟩:=Na o.toNat_lt h;refine GV (g:=wQ) (base:=sQ 139) ?_ hw (hK w);rfl
structure iI (h:ak) (i:Nat) (cs:List Value) (e:TypeId):Prop where
 lt:i<h.n
 get:h.b.get i=some (.cells cs e true)
theorem iI.new (h:ak) (cs:List Value) (e:TypeId):iI (ai h (.cells cs e true)) h.n cs e:=⟨cK _,az _ _⟩
theorem iI.ext {B:Nat}{h h':ak}{i:Nat}{cs:List Value}{e:TypeId}(b:iI h i cs e) (x:aw B h h') (hi:i<B):iI h' i cs e:=⟨bX b.lt x.n,by rw[x.get i hi];exact b.get⟩
theorem iI.set {h:ak}{i:Nat}{cs cs':List Value}{e:TypeId}(b:iI h i cs e):iI { h with b:=h.b.set i (.cells cs' e true) } i cs' e:=⟨b.lt,T.get_set_same _ _ _⟩
theorem iI.at_ {h:ak}{i j:Nat}{cs:List Value}{e:TypeId}{v:Value}(b:iI h i cs e) (hj:cs[j]?=some v):cellAt h ⟨i,j,none⟩=some v:=ay b.lt b.get hj
theorem qO:b_ env 210=some (.map 21 5):=c_
theorem vd:b_ env 21=some (.int .i32):=c_
theorem Pz:zero env 5=some (.int .u8 0):=c_
def regB (a b c ch:UInt8):UInt8:=if ch=97 then a else if ch=98 then b else if ch=99 then c else 0
def Rt (a b c:UInt8):List (Value×Value×Nat):=[(.int .i32 97,bK a,0),(.int .i32 98,bK b,1),(.int .i32 99,bK c,2)]
theorem Tv {a b c ch:UInt8}{h:ak}{r:Nat}{K:Value→Prop}(hr:r<h.n) (hb:h.b.get r=some (.map (Rt a b c) 3)) (hch:ch=97∨ch=98∨ch=99∨ch=110∨ch=100∨ch=107)
  (q:K (bK (regB a b c ch))):FV env 210 (.map (some r)) (.int .i32 (ch.toNat:Int)) false h K:=by
 rcases hch with rfl|rfl|rfl|rfl|rfl|rfl
 ·exact D0 (i:=0) hr hb qO vd rfl rfl q
 ·exact D0 (i:=1) hr hb qO vd rfl rfl q
 ·exact D0 (i:=2) hr hb qO vd rfl rfl q
 ·exact Aj hr hb qO vd rfl Pz rfl q
 ·exact Aj hr hb qO vd rfl Pz rfl q
 ·exact Aj hr hb qO vd rfl Pz rfl q
theorem ch_lt {ch:UInt8}(hch:ch=97∨ch=98∨ch=99∨ch=110∨ch=100∨ch=107):ch.toNat<128:=by rcases hch with rfl|rfl|rfl|rfl|rfl|rfl<;>decide
end Go.Proofs.YthjlppdnlahhoaaGreat

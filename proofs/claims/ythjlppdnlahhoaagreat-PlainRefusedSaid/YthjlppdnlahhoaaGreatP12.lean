/- THE PLAIN MACHINE's FUNCTIONS, walked (12). Conditions: none beyond each theorem's own. -/
import Derived.Test.YthjlppdnlahhoaaGreatP7
import Derived.Test.YthjlppdnlahhoaaGreatP10
import Derived.Test.YthjlppdnlahhoaaGreatP9
set_option linter.unusedSimpArgs false
set_option linter.unusedVariables false
namespace Go.Proofs.YthjlppdnlahhoaaGreat
open Go.Ev
open Pl
set_option maxRecDepth 100000
theorem xB:∀ (m:Nat) (l:List Nat),l.Nodup→(∀ i∈l,i<m)→l.length≤m
 | 0,l,_,h=>by
   cases l with
   | nil=>simp
   | cons x l=>exact absurd (h x an) ah
 | m+1,l,hn,h=>by
   have h1:=xB m (l.erase m) (hn.erase m) fun i hi=>by
     have hi':=List.mem_of_mem_erase hi;have:=h i hi';have hne:i≠m:=fun e=>by subst e;exact(List.Nodup.not_mem_erase hn) hi
     omega
   have:=List.length_erase (a:=m) (l:=l);split at this<;>omega
def nT {α:Type}(n:Nat) (l:List (Ob α)):Prop:=∀ k (h:k<l.length),1≤l[k].gen∧l[k].gen≤n+1
structure uU {α:Type}(l:List (Ob α)) (f:List Nat):Prop where
 nd:f.Nodup
 off:∀ i∈f,∃ h:i<l.length,l[i].is=false
structure G9 (n:Nat) (sh:List (Ob SD)) (fs:List Nat):Prop where
 gen:nT n sh
 fr:uU sh fs
 ee:∀ k (h:k<sh.length),sh[k].is=true→sh[k].x.ee≠0
 ch:∀ k (h:k<sh.length),sh[k].is=true→∃ l,tP sh ⟨(k:Int),(sh[k].gen:Int)⟩ l∧l.length≤n+2
 par:∀ k (h:k<sh.length),sh[k].is=true→sh[k].x.par.g=0∨∃ d,aB sh sh[k].x.par=some d
structure Ij (n:Nat) (cl:List (Ob XD)) (fc:List Nat):Prop where
 gen:nT n cl
 fr:uU cl fc
 ref:kQ cl
structure Yo (sh:List (Ob SD)) (cl:List (Ob XD)) (np:Nat) (x:GD):Prop where
 gG:∃ d,aB sh x.gG=some d
 ctx:∃ j,aB cl x.ctx=some j
 prog:0≤x.prog∧x.prog<(np:Int)
 yn:oa x
structure Bs (n:Nat) (gs:List (Ob GD)) (fg:List Nat) (sh:List (Ob SD)) (cl:List (Ob XD)) (np:Nat):Prop where
 gen:nT n gs
 fr:uU gs fg
 jF:∀ g (h:g<gs.length),gs[g].x.jF<256
 live:∀ g (h:g<gs.length),gs[g].is=true→Yo sh cl np gs[g].x
def oP (r:RR) (o:Ob GD):Bool:=o.is&&decide (o.x.gG=r)
def nZ (r:RR) (o:Ob GD):Bool:=o.is&&decide (o.x.ctx=r)
structure Sw (gs:List (Ob GD)) (sh:List (Ob SD)) (cl:List (Ob XD)):Prop where
 own:∀ d (h:d<sh.length),sh[d].is=true→sh[d].x.own=((gs.countP (oP ⟨(d:Int),(sh[d].gen:Int)⟩):Nat):Int)
 dH:∀ j (h:j<cl.length),cl[j].is=true→cl[j].x.dH=((gs.countP (nZ ⟨(j:Int),(cl[j].gen:Int)⟩):Nat):Int)
structure Inv (n:Nat) (M:MD):Prop where
 q:nD M
 lv:∀ z,0<dS M.all M.ps z→∃ h:z<M.gs.length,M.gs[z].is=true
 t:TmL M
 tn:(M.tm.map TD.id).Nodup
 gl:M.gs.length≤16
 sl:M.sh.length≤1000
 cl:M.cl.length≤1000
 refs:M.cfg.refs≤16
 bP:M.cfg.bP≤1000
 Sp:1≤M.cfg.fm∧M.cfg.fm≤256
 Su:M.ps.length=M.cfg.ps
 now:M.now≤n
 S:G9 n M.sh M.fs
 C:Ij n M.cl M.fc
 G:Bs n M.gs M.fg M.sh M.cl M.cfg.cG.length
 T:Sw M.gs M.sh M.cl
 K:ud M.ax M.cw
 kl:M.ax.length≤M.cw
 cw:M.cw≤n+3
 log:M.log.length≤M.cfg.fm
 calls:M.calls≤n
theorem fh {α:Type}{l:List (Ob α)}{k:Nat}(hk:k<l.length) (hi:l[k].is=true):aB l ⟨(k:Int),(l[k].gen:Int)⟩=some k:=aH.2 ⟨hk,rfl,hi,rfl⟩
theorem cE {α:Type}{l:List (Ob α)}{r:RR}{k:Nat}(h:aB l r=some k):∃ hk:k<l.length,l[k].is=true∧r=⟨(k:Int),(l[k].gen:Int)⟩:=by obtain⟨hk,e1,hi,e2⟩:=aH.1 h;refine⟨hk,hi,?_⟩;cases r;simp only at e1 e2;rw[e1,← e2]
theorem Inv.JM {n:Nat}{M:MD}(I:Inv n M) (hn:n≤300):Ke M.sh:=fun k hk hi=>by obtain⟨l,c,hl⟩:=I.S.ch k hk hi;exact⟨l,c,ah⟩
theorem Inv.chn {n:Nat}{M:MD}(I:Inv n M) {r:RR}{d:Nat}(h:aB M.sh r=some d):∃ l,tP M.sh r l∧l.length≤n+2:=by obtain⟨hk,hi,rfl⟩:=cE h;exact I.S.ch d hk hi
theorem Inv.L {n:Nat}{M:MD}(I:Inv n M) (hn:n≤300):Lv M where
 gl:=by have:=I.gl;omega
 sl:=I.sl
 cl:=I.cl
 refs:=I.refs
 ref:=I.C.ref
 jF:=I.G.jF
 lv:=I.lv
 ZO:=fun z h hi=>by have g:=I.G.live z h hi;obtain⟨d,hd⟩:=g.gG;obtain⟨l,c,hl⟩:=I.chn hd;exact⟨g.ctx,l,c,ah⟩
theorem Inv.run0 {n:Nat}{M:MD}(I:Inv n M) (hn:n≤300):ue M M:=⟨.refl _,I.q,I.L hn,I.t⟩
theorem Inv.Wb {n:Nat}{M:MD}(I:Inv n M):M.tm.length≤16:=by
 have h:∀ x∈M.tm,∃ g:Nat,g<16∧x.id=(g:Int):=fun x hx=>by obtain⟨g,e,hg,_⟩:=I.t x hx;exact⟨g,by have:=I.gl;omega,e⟩
 have:(M.tm.map fun x=>x.id.toNat).Nodup:=by
  have e:M.tm.map (fun x=>x.id.toNat)=(M.tm.map TD.id).map Int.toNat:=by rw[th];rfl
  rw[e];refine List.Pairwise.map _ (R:=fun x y=>x≠y∧x∈M.tm.map TD.id∧y∈M.tm.map TD.id) (fun x y ⟨hxy,hx,hy⟩=>?_) ?_;·obtain⟨a,ha,rfl⟩:=bD.1 hx;obtain⟨b,hb,rfl⟩:=bD.1 hy;obtain⟨g1,_,e1⟩:=h a ha;obtain⟨g2,_,e2⟩:=h b hb;omega
  ·exact List.Pairwise.imp_of_mem (fun ha hb hab=>⟨hab,ha,hb⟩) I.tn
 have:=xB 16 _ this fun i hi=>by obtain⟨x,hx,rfl⟩:=bD.1 hi;obtain⟨g,hg,e⟩:=h x hx;show x.id.toNat<16;omega
 simpa using this
theorem uU.len {α:Type}{l:List (Ob α)}{f:List Nat}(h:uU l f):f.length≤l.length:=xB _ _ h.nd fun i hi=>(h.off i hi).1
theorem countP_eq {α:Type}{p q:α→Bool}{l l':List α}(hl:l.length=l'.length) (h:∀ k (h:k<l.length) (h':k<l'.length),p l[k]=q l'[k]):l.countP p=l'.countP q:=by
 have e:l.map p=l'.map q:=List.ext_getElem (by simpa using hl) fun k h1 h2=>by simp only[dr];exact h k _ _
 have h1:l.countP p=(l.map p).countP id:=by rw[List.countP_map];rfl
 have h2:l'.countP q=(l'.map q).countP id:=by rw[List.countP_map];rfl
 rw[h1,h2,e]
theorem uU.of {α:Type}{a b:List (Ob α)}{f:List Nat}(h:uU b f) (hl:a.length=b.length) (hi:∀ k (h:k<a.length) (h':k<b.length),a[k].is=b[k].is):uU a f :=
 ⟨h.nd,fun i hf=>by obtain⟨h1,h2⟩:=h.off i hf;have h1':i<a.length:=hl▸h1;exact⟨h1',(hi i h1' h1).trans h2⟩⟩
theorem Yo.of {sh sh':List (Ob SD)}{cl Bk:List (Ob XD)}{np:Nat}{x y:GD}(g:Yo sh cl np x) (h1:∀ r k,aB sh r=some k→∃ k',aB sh' r=some k') (h2:∀ r k,aB cl r=some k→∃ k',aB Bk r=some k') (e1:y.gG=x.gG) (e2:y.ctx=x.ctx) (e3:y.prog=x.prog) (e4:oa y):Yo sh' Bk np y :=
 ⟨by obtain ⟨d,hd⟩:=g.gG;rw[e1];exact h1 _ _ hd,by obtain ⟨d,hd⟩:=g.ctx;rw[e2];exact h2 _ _ hd,by rw[e3];exact g.prog,e4⟩
structure Md (a b:List (Ob SD)):Prop where
 len:a.length=b.length
 gen:∀ k (h:k<a.length) (h':k<b.length),a[k].gen=b[k].gen
 is:∀ k (h:k<a.length) (h':k<b.length),a[k].is=b[k].is
 par:∀ k (h:k<a.length) (h':k<b.length),a[k].x.par=b[k].x.par
 ee:∀ k (h:k<a.length) (h':k<b.length),a[k].x.ee=b[k].x.ee
structure P_ (a b:List (Ob XD)):Prop where
 len:a.length=b.length
 gen:∀ k (h:k<a.length) (h':k<b.length),a[k].gen=b[k].gen
 is:∀ k (h:k<a.length) (h':k<b.length),a[k].is=b[k].is
theorem yH.w {a b:List (Ob SD)}(x:yH a b):Md a b:=⟨x.len,x.gen,x.is,x.par,x.ee⟩
theorem wG.w {a b:List (Ob XD)}(x:wG a b):P_ a b:=⟨x.len,x.gen,x.is⟩
theorem Md.symm {a b:List (Ob SD)}(x:Md a b):Md b a:=⟨x.len.symm,fun k h h'=>(x.gen k h' h).symm,fun k h h'=>(x.is k h' h).symm,fun k h h'=>(x.par k h' h).symm,fun k h h'=>(x.ee k h' h).symm⟩
theorem Pt {α β:Type}{a:List (Ob α)}{b:List (Ob β)}(hl:a.length=b.length) (hg:∀ k (h:k<a.length) (h':k<b.length),a[k].gen=b[k].gen) (hi:∀ k (h:k<a.length) (h':k<b.length),a[k].is=b[k].is) (r:RR):aB a r=aB b r:=by
 cases h:aB b r with
 | some k =>
   obtain⟨h1,h2,h3,h4⟩:=aH.1 h
   have h1':k<a.length:=hl▸h1
   exact aH.2 ⟨h1',h2,(hi k h1' h1).trans h3,by rw[hg k h1' h1];exact h4⟩
 | none =>
   cases h':aB a r with
   | none=>rfl
   | some k =>
     obtain⟨h1,h2,h3,h4⟩:=aH.1 h'
     have h1':k<b.length:=hl▸h1
     rw[aH.2 ⟨h1',h2,(hi k h1 h1').symm.trans h3,by rw[← hg k h1 h1'];exact h4⟩]at h
     cases h
theorem Md.live {a b:List (Ob SD)}(x:Md a b) (r:RR):aB a r=aB b r:=Pt x.len x.gen x.is r
theorem P_.live {a b:List (Ob XD)}(x:P_ a b) (r:RR):aB a r=aB b r:=Pt x.len x.gen x.is r
theorem tP.shw {a b:List (Ob SD)}(x:Md a b) {r:RR}{l:List RR}(c:tP a r l):tP b r l:=by
 induction c with
 | nil h=>exact .nil ((x.live _).symm.trans h)
 | @cons r k l h hk _ ih =>
   have hk':k<b.length:=x.len▸hk
   exact .cons ((x.live _).symm.trans h) hk' (by rw[← x.par k hk hk'];exact ih)
theorem G9.of {n:Nat}{sh sh':List (Ob SD)}{fs:List Nat}(I:G9 n sh fs) (x:Md sh' sh):G9 n sh' fs where
 gen:=fun k h=>by rw[x.gen k h (x.len▸h)];exact I.gen k _
 fr:=I.fr.of x.len x.is
 ee:=fun k h hi=>by have h':k<sh.length:=x.len▸h;rw[x.ee k h h'];exact I.ee k h' (by rw[← x.is k h h'];exact hi)
 ch:=fun k h hi=>by have h':k<sh.length:=x.len▸h;obtain⟨l,c,hl⟩:=I.ch k h' (by rw[← x.is k h h'];exact hi);exact⟨l,by rw[x.gen k h h'];exact c.shw x.symm,hl⟩
 par:=fun k h hi=>by have h':k<sh.length:=x.len▸h;rw[x.par k h h',x.live];exact I.par k h' (by rw[← x.is k h h'];exact hi)
theorem Ij.of {n:Nat}{cl Bk:List (Ob XD)}{fc:List Nat}(I:Ij n cl fc) (x:P_ Bk cl) (r:kQ Bk):Ij n Bk fc where
 gen:=fun k h=>by rw[x.gen k h (x.len▸h)];exact I.gen k _
 fr:=I.fr.of x.len x.is
 ref:=r
theorem Bs.of {n:Nat}{gs gs':List (Ob GD)}{fg:List Nat}{sh sh':List (Ob SD)}{cl Bk:List (Ob XD)}{np:Nat}(I:Bs n gs fg sh cl np) (x:oZ gs' gs) (h1:∀ r k,aB sh r=some k→∃ k',aB sh' r=some k') (h2:∀ r k,aB cl r=some k→∃ k',aB Bk r=some k'):Bs n gs' fg sh' Bk np where
 gen:=fun k h=>by rw[x.gen k h (x.len▸h)];exact I.gen k _
 fr:=I.fr.of x.len x.is
 jF:=fun k h=>x.jF k h (x.len▸h) (I.jF k _)
 live:=fun k h hi=>by have h':k<gs.length:=x.len▸h;have g:=I.live k h' (by rw[← x.is k h h'];exact hi);exact g.of h1 h2 (x.gG k h h') (x.ctx k h h') (x.prog k h h') (x.yn k h h' g.yn)
theorem oZ.oP {gs gs':List (Ob GD)}(x:oZ gs' gs) (r:RR):gs'.countP (oP r)=gs.countP (oP r) :=
 countP_eq x.len fun k h h'=>by simp only[Go.Proofs.YthjlppdnlahhoaaGreat.oP];rw[x.is k h h',x.gG k h h']
theorem oZ.nZ {gs gs':List (Ob GD)}(x:oZ gs' gs) (r:RR):gs'.countP (nZ r)=gs.countP (nZ r) :=
 countP_eq x.len fun k h h'=>by simp only[Go.Proofs.YthjlppdnlahhoaaGreat.nZ];rw[x.is k h h',x.ctx k h h']
theorem Sw.of {gs gs':List (Ob GD)}{sh sh':List (Ob SD)}{cl Bk:List (Ob XD)}(I:Sw gs sh cl) (x:oZ gs' gs) (y:yH sh' sh) (z:wG Bk cl):Sw gs' sh' Bk where
 own:=fun d h hi=>by have h':d<sh.length:=y.len▸h;rw[x.oP,y.gen d h h',y.own d h h'];exact I.own d h' (by rw[← y.is d h h'];exact hi)
 dH:=fun d h hi=>by have h':d<cl.length:=z.len▸h;rw[x.nZ,z.gen d h h',z.dH d h h'];exact I.dH d h' (by rw[← z.is d h h'];exact hi)
theorem yH.Gh {a b:List (Ob SD)}(x:yH a b):∀ r k,aB b r=some k→∃ k',aB a r=some k':=fun r k h=>⟨k,(x.live r).trans h⟩
theorem wG.Gh {a b:List (Ob XD)}(x:wG a b):∀ r k,aB b r=some k→∃ k',aB a r=some k':=fun r k h=>⟨k,(x.live r).trans h⟩
theorem Inv.of {n:Nat}{M M':MD}(I:Inv n M) (S:nE M M') (q:nD M') (lv:∀ z,0<dS M'.all M'.ps z→∃ h:z<M'.gs.length,M'.gs[z].is=true) (r:kQ M'.cl):Inv n M' where
 q:=q
 lv:=lv
 t:=S.Wb I.t
 tn:=List.Nodup.sublist (S.tm.map TD.id) I.tn
 gl:=by rw[S.gs.len];exact I.gl
 sl:=by rw[S.sh.len];exact I.sl
 cl:=by rw[S.cl.len];exact I.cl
 refs:=by rw[S.cfg];exact I.refs
 bP:=by rw[S.cfg];exact I.bP
 Sp:=by rw[S.cfg];exact I.Sp
 Su:=by rw[S.cfg,S.ps];exact I.Su
 now:=by rw[S.now];exact I.now
 S:=by rw[S.fs];exact I.S.of S.sh.w
 C:=by rw[S.fc];exact I.C.of S.cl.w r
 G:=by rw[S.fg,S.cfg];exact I.G.of S.gs S.sh.Gh S.cl.Gh
 T:=I.T.of S.gs S.sh S.cl
 K:=by rw[S.ax,S.cw];exact I.K
 kl:=by rw[S.ax,S.cw];exact I.kl
 cw:=by rw[S.cw];exact I.cw
 log:=by rw[S.log,S.cfg];exact I.log
 calls:=by rw[S.calls];exact I.calls
theorem Inv.run {n:Nat}{M M':MD}(I:Inv n M) (r:ue M M'):Inv n M':=I.of r.same r.q r.L.lv r.L.ref
theorem nT.mono {α:Type}{n m:Nat}{l:List (Ob α)}(h:nT n l) (hn:n≤m):nT m l:=fun k hk=>⟨(h k hk).1,bO (h k hk).2 ah⟩
theorem G9.mono {n m:Nat}{sh:List (Ob SD)}{fs:List Nat}(I:G9 n sh fs) (hn:n≤m):G9 m sh fs:=⟨I.gen.mono hn,I.fr,I.ee,fun k h hi=>let ⟨l,c,hl⟩:=I.ch k h hi;⟨l,c,ah⟩,I.par⟩
theorem Ij.mono {n m:Nat}{cl:List (Ob XD)}{fs:List Nat}(I:Ij n cl fs) (hn:n≤m):Ij m cl fs:=⟨I.gen.mono hn,I.fr,I.ref⟩
theorem Bs.mono {n m:Nat}{gs:List (Ob GD)}{fg:List Nat}{sh:List (Ob SD)}{cl:List (Ob XD)}{np:Nat}(I:Bs n gs fg sh cl np) (hn:n≤m):Bs m gs fg sh cl np:=⟨I.gen.mono hn,I.fr,I.jF,I.live⟩
theorem Inv.mono {n m:Nat}{M:MD}(I:Inv n M) (hn:n≤m):Inv m M :=
 { I with now:=bO I.now hn,S:=I.S.mono hn,C:=I.C.mono hn,G:=I.G.mono hn,cw:=by have:=I.cw;omega,calls:=by have:=I.calls;omega }
theorem put_q {M:MD}{g:Nat}{x:List Nat×List PD}(q:nD M) (hg:g<M.gs.length) (ho:dS M.all M.ps g=0) (r:Mj M.cfg.ring M.all M.ps g x) :
   nD (M.q x)∧x.2.length=M.ps.length∧∀ z,dS x.1 x.2 z=dS M.all M.ps z+(if z=g then 1 else 0):=by
 have hoc:∀ z,dS (M.all++[g]) M.ps z=dS M.all M.ps z+(if z=g then 1 else 0):=fun z=>by simp only[dS,hI,ju];omega
 have q1:nD { M with all:=M.all++[g] }:=⟨q.Bj,q.zP,fun z=>by
     show dS (M.all++[g]) M.ps z≤1;rw[hoc];have:=q.dS z;split;· rename_i e;subst e;omega
     · omega,fun z h=>by
     have h:0<dS (M.all++[g]) M.ps z:=h;rw[hoc]at h;split at h;· rename_i e;subst e;exact hg
     · exact q.lt z ah,q.next,q.runs,q.ring,q.nR⟩
 have m:Mv { M with all:=M.all++[g] } x []:=by
   have m0:Mv { M with all:=M.all++[g] } (M.all,M.ps) [g]:=⟨fun z=>by show dS M.all M.ps z+[g].count z=dS (M.all++[g]) M.ps z;rw[hoc,ju],rfl,q.next,fun _ _ _=>rfl⟩;cases r with
   | all=>exact Mv.refl q1
   | @row p hp=>exact m0.row hp
   | @next p hp hp' =>
     obtain⟨k,kn⟩:=DQ q hp'
     have k1:Mv { M with all:=M.all++[g] } (iT M.cfg.ring M.all M.ps p) [g]:=⟨fun z=>by have:=k.dS z;simp only[pA,cj]at this;show dS _ _ z+[g].count z=dS (M.all++[g]) M.ps z;rw[this,hoc,ju],k.len,k.next,k.runs⟩
     refine Mv.set (x:=iT M.cfg.ring M.all M.ps p) k1 hp rfl an fun z=>?_
     rw[kn hp];simp;omega
 have mq:nD (({ M with all:=M.all++[g] }:MD).q x):=Mv.Sv q1 m
 refine⟨mq,m.len,fun z=>?_⟩
 have:=m.dS z
 simp only[pA,cj]at this
 rw[this];exact hoc z
theorem Inv.put {n:Nat}{M:MD}{g:Nat}{x:List Nat×List PD}(I:Inv n M) (hg:g<M.gs.length) (hi:M.gs[g].is=true) (ho:dS M.all M.ps g=0) (r:Mj M.cfg.ring M.all M.ps g x):Inv n (M.q x):=by
 obtain⟨h1,h2,h3⟩:=put_q I.q hg ho r;refine I.of ⟨rfl,rfl,rfl,rfl,rfl,rfl,rfl,rfl,rfl,rfl,.refl _,.refl _,.refl _,h2,.refl _⟩ h1 (fun z hz=>?_) I.C.ref;have hz:0<dS x.1 x.2 z:=hz;rw[h3]at hz;by_cases e:z=g;·subst e;exact⟨hg,hi⟩
 ·rw[if_neg e]at hz;exact I.lv z ah
theorem Inv.off {n:Nat}{M:MD}{g:Nat}{gs:List (Ob GD)}{all:List Nat}(I:Inv n M) (hn:n≤300) (hg:∃ h:g<M.gs.length,M.gs[g].is=true) (E:oZ gs M.gs) (ha:all=(M.off g).all∨all=(M.off g).all++[g]):Inv n { M.off g with gs:=gs,all:=all } :=
 I.run ((I.run0 hn).off E hg ha)
theorem Inv.R_ {n:Nat}{M:MD}{g:Nat}(I:Inv n M) (hn:n≤300) (hg:∃ h:g<M.gs.length,M.gs[g].is=true):Inv n (M.off g) :=
 I.off hn hg (gs:=M.gs) (all:=(M.off g).all) (.refl _) (.inl rfl)
theorem Inv.gs {n:Nat}{M:MD}{gs:List (Ob GD)}(I:Inv n M) (E:oZ gs M.gs):Inv n { M with gs:=gs } :=
 I.of ⟨rfl,rfl,rfl,rfl,rfl,rfl,rfl,rfl,rfl,rfl,.refl _,.refl _,E,rfl,.refl _⟩ (I.q.of E.len rfl rfl rfl) (fun z hz=>by
  obtain⟨h,hi⟩:=I.lv z hz;have h':z<gs.length:=by rw[E.len];exact h
  exact⟨h',(E.is z h' h).trans hi⟩) I.C.ref
theorem Inv.Bk {n:Nat}{M:MD}{cl:List (Ob XD)}(I:Inv n M) (E:wG cl M.cl) (r:kQ cl):Inv n { M with cl:=cl } :=
 I.of ⟨rfl,rfl,rfl,rfl,rfl,rfl,rfl,rfl,rfl,rfl,.refl _,E,.refl _,rfl,.refl _⟩ (I.q.of rfl rfl rfl rfl) I.lv r
theorem Jp {l:List TD}{g:Nat}:∀ t∈oX l g,t.id≠(g:Int):=fun t ht=>by have:=(List.mem_filter.1 ht).2;simpa[Lp]using this
theorem Inv.wake {n:Nat}{M:MD}{g:Nat}{at':Int}{tm:List TD}(I:Inv n M) (hg:∃ h:g<M.gs.length,M.gs[g].is=true) (hno:∀ t∈M.tm,t.id≠(g:Int)) (p:tm.Perm (M.tm++[⟨at',(g:Int)⟩])):Inv n { M with tm:=tm } :=
 { I with
   q:=I.q.of rfl rfl rfl rfl
   t := fun t ht=>by
     rcases dV.1 (p.subset ht) with h|h;· exact I.t t h
     · obtain rfl:=jC.1 h;show ∃ g':Nat,(g:Int)=(g':Int)∧∃ h:g'<M.gs.length,M.gs[g'].is=true;exact⟨g,rfl,hg⟩
   tn:=by
     have:((M.tm++[(⟨at',(g:Int)⟩:TD)]).map TD.id).Nodup:=by
       rw[fo];refine qb.2 ⟨I.tn,an,fun a ha b hb e=>?_⟩;obtain⟨t,ht,rfl⟩:=bD.1 ha;have hb:b=(g:Int):=by simpa using hb
       exact hno t ht (e.trans hb)
     exact(List.Perm.nodup_iff (p.map TD.id)).2 this }
theorem Inv.rO {n:Nat}{M:MD}{f:Nat}{g sl:Int}{c:CD}(I:Inv n M) (hf:f<M.ax.length):Inv (n+1) (M.rO M.ax[f].id g sl c) :=
 { I.mono (aL n) with
   q:=I.q.of rfl rfl rfl rfl
   K := by
     obtain⟨m,hm,hm0,hm1⟩:=I.K.pos _ (bG hf);refine⟨fun x hx=>?_,?_,fun x hx=>?_⟩
     · rcases dV.1 hx with h|h;· obtain⟨k,e,h1,h2⟩:=I.K.pos x h;exact⟨k,e,h1,by show k≤M.cw+1;omega⟩
       · obtain rfl:=jC.1 h;exact⟨M.cw+1,rfl,ah,aQ _⟩
     · show ((M.ax++[_]).map KD.id).Nodup;rw[fo];refine qb.2 ⟨I.K.uniq,an,fun a ha b hb e=>?_⟩;obtain⟨x,hx,rfl⟩:=bD.1 ha;obtain⟨k,e1,_,h2⟩:=I.K.pos x hx;simp at hb;omega
     · rcases dV.1 hx with h|h
       · rcases I.K.up x h with h0|⟨h1,h2,y,hy,h3⟩;· exact .inl h0
         · exact .inr ⟨h1,h2,y,jw _ hy,h3⟩
       · obtain rfl:=jC.1 h;refine .inr ⟨⟨m,hm⟩,?_,M.ax[f],jw _ (bG hf),rfl⟩;show M.ax[f].id<((M.cw+1:Nat):Int);omega
   kl:=by have:=I.kl;simp only[MD.rO,dA,dn,cF];omega
   cw:=by have:=I.cw;show M.cw+1≤n+1+3;omega }
theorem Inv.Sh {n:Nat}{M:MD}{l:List KD}(I:Inv n M) (c:ud l M.cw) (hl:l.length≤M.ax.length):Inv n { M with ax:=l } :=
 { I with q:=I.q.of rfl rfl rfl rfl,K:=c,kl:=bO hl I.kl }
theorem Inv.gone {n:Nat}{M:MD}{i:Nat}(I:Inv n M) (hi:i<M.ax.length):Inv n { M with ax:=uq M.ax i M.ax[i] }:=I.Sh (Ah I.K hi) Cb
theorem Inv.ab7 {n:Nat}{M:MD}{id:Int}{l:List KD}(I:Inv n M) (hs:l.Sublist M.ax) (h1:∀ x∈l,¬Ly M.ax id x) (h2:∀ x∈M.ax,¬Ly M.ax id x→x∈l):Inv n { M with ax:=l }:=by
 refine I.Sh ⟨fun x hx=>I.K.pos x (hs.subset hx),List.Nodup.sublist (hs.map KD.id) I.K.uniq,fun x hx=>?_⟩ hs.length_le;have hx':=hs.subset hx;rcases I.K.up x hx' with h0|⟨a,b,y,hy,e⟩;·exact .inl h0
 ·by_cases h0:x.ab=0;·exact .inl h0
  refine .inr ⟨a,b,y,h2 y hy fun u=>h1 x hx (.up h0 hy e u),e⟩
theorem Inv.slot {n:Nat}{M:MD}{k:Nat}{y:KD}(I:Inv n M) (hk:k<M.ax.length) (e1:y.id=M.ax[k].id) (e2:y.ab=M.ax[k].ab):Inv n { M with ax:=M.ax.set k y }:=by
 have hid:(M.ax.set k y).map KD.id=M.ax.map KD.id:=List.ext_getElem an fun j h1 h2=>by
  simp only[dr,cJ];split;·rename_i e;subst e;exact e1
  ·rfl
 have mem:∀ x∈M.ax.set k y,∃ z∈M.ax,x.id=z.id∧x.ab=z.ab:=fun x hx=>by
  obtain⟨j,hj,rfl⟩:=eU hx;simp only[cS]at hj;rw[cJ];split;·rename_i e;subst e;exact⟨_,bG hk,e1,e2⟩
  ·exact⟨_,bG hj,rfl,rfl⟩
 refine I.Sh ⟨fun x hx=>?_,by rw[hid];exact I.K.uniq,fun x hx=>?_⟩ an;·obtain⟨z,hz,h1,_⟩:=mem x hx;rw[h1];exact I.K.pos z hz
 ·obtain⟨z,hz,h1,h2⟩:=mem x hx;rw[h1,h2];rcases I.K.up z hz with h0|⟨a,b,w,hw,e⟩;·exact .inl h0
  ·have:w.id∈(M.ax.set k y).map KD.id:=by rw[hid];exact bD.2 ⟨w,hw,rfl⟩
   obtain⟨w',hw',e'⟩:=bD.1 this;exact .inr ⟨a,b,w',hw',e'.trans e⟩
theorem JR {p:Ob GD→Bool}{l:List (Ob GD)}{k:Nat}{y:Ob GD}(hk:k<l.length):(l.set k y).countP p+(if p l[k]=true then 1 else 0)=l.countP p+(if p y=true then 1 else 0):=by
 have h:=List.countP_set (p:=p) (l:=l) (i:=k) (a:=y) hk;have:(if p l[k]=true then 1 else 0)≤l.countP p:=by
  split;·rename_i h;exact zE.2 ⟨_,bG hk,h⟩
  ·omega
 omega
theorem lX {p:Ob GD→Bool}{l:List (Ob GD)}(hl:l.length≤16):l.countP p≤16:=bO List.countP_le_length hl
theorem uU.add {α:Type}{l:List (Ob α)}{f:List Nat}{k:Nat}{y:Ob α}(h:uU l f) (hk:k<l.length) (hi:l[k].is=true) (hy:y.is=false):uU (l.set k y) (f++[k]):=by
 have hnk:k∉f:=fun hf=>by obtain⟨_,h2⟩:=h.off k hf;rw[hi]at h2;cases h2
 refine⟨qb.2 ⟨h.nd,an,fun a ha b hb e=>?_⟩,fun i hf=>?_⟩
 ·have hb:b=k:=by simpa using hb
  exact hnk (by rw[← hb,← e];exact ha)
 ·rcases dV.1 hf with hf|hf
  ·obtain⟨h1,h2⟩:=h.off i hf;refine⟨by simpa using h1,?_⟩;rw[cJ];split;·exact hy
   ·exact h2
  ·obtain rfl:i=k:=by simpa using hf
   exact⟨by simpa using hk,by simpa using hy⟩
theorem uU.pop {α:Type}{l:List (Ob α)}{f:List Nat}{k:Nat}{y:Ob α}(h:uU l (f++[k])):uU (l.set k y) f:=by obtain⟨h1,_,h3⟩:=qb.1 h.nd;refine⟨h1,fun i hf=>?_⟩;obtain⟨hi,h2⟩:=h.off i (jw _ hf);have hne:k≠i:=fun e=>h3 i hf k an e.symm;exact⟨by simpa using hi,by rw[cV hne];exact h2⟩
theorem nT.set {α:Type}{n:Nat}{l:List (Ob α)}{k:Nat}{y:Ob α}(h:nT n l) (h1:1≤y.gen) (h2:y.gen≤n+1):nT n (l.set k y):=fun i hi=>by
 rw[cJ];split;·exact⟨h1,h2⟩
 ·exact h i (by simpa using hi)
theorem JJ {l:List (Ob SD)}{k:Nat}{y:Ob SD}(hk:k<l.length) (h1:y.gen=l[k].gen) (h2:y.is=l[k].is) (h3:y.x.par=l[k].x.par) (h4:y.x.ee=l[k].x.ee):Md (l.set k y) l:=by
 refine⟨by simp,fun j _ _=>?_,fun j _ _=>?_,fun j _ _=>?_,fun j _ _=>?_⟩ <;>
 ·rw[cJ];split;·rename_i e;subst e;assumption
  ·rfl
theorem CO {l:List (Ob XD)}{k:Nat}{y:Ob XD}(hk:k<l.length) (h1:y.gen=l[k].gen) (h2:y.is=l[k].is):P_ (l.set k y) l:=by
 refine⟨by simp,fun j _ _=>?_,fun j _ _=>?_⟩ <;>
 ·rw[cJ];split;·rename_i e;subst e;assumption
  ·rfl
theorem Md.Gh {a b:List (Ob SD)}(x:Md a b):∀ r k,aB b r=some k→∃ k',aB a r=some k':=fun r k h=>⟨k,(x.live r).trans h⟩
theorem P_.Gh {a b:List (Ob XD)}(x:P_ a b):∀ r k,aB b r=some k→∃ k',aB a r=some k':=fun r k h=>⟨k,(x.live r).trans h⟩
theorem Jq {i j:Nat}{a b:Int}(h:(⟨(i:Int),a⟩:RR)=⟨(j:Int),b⟩):i=j:=by have:=(RR.mk.inj h).1;omega
theorem Jm {gs:List (Ob GD)}{sh sh':List (Ob SD)}{k:Nat}{y:Ob GD}(I:∀ d (h:d<sh.length),sh[d].is=true→sh[d].x.own=((gs.countP (oP ⟨(d:Int),(sh[d].gen:Int)⟩):Nat):Int)) (hk:k<gs.length)
  (H:∀ d (h':d<sh'.length),sh'[d].is=true→∃ h:d<sh.length,sh[d].is=true∧sh'[d].gen=sh[d].gen∧sh'[d].x.own+(if oP ⟨(d:Int),(sh[d].gen:Int)⟩ gs[k]=true then 1 else 0)=sh[d].x.own+(if oP ⟨(d:Int),(sh[d].gen:Int)⟩ y=true then 1 else 0)) :
  ∀ d (h:d<sh'.length),sh'[d].is=true→sh'[d].x.own=(((gs.set k y).countP (oP ⟨(d:Int),(sh'[d].gen:Int)⟩):Nat):Int):=fun d h hi=>by
 obtain⟨h1,h2,h3,h4⟩:=H d h hi
 have hc:=JR (p:=oP ⟨(d:Int),(sh[d].gen:Int)⟩) (y:=y) hk
 have h5:=I d h1 h2
 rw[h3]
 split at hc<;>split at hc<;>simp_all<;>omega
theorem Ed {gs:List (Ob GD)}{sh sh':List (Ob XD)}{k:Nat}{y:Ob GD}(I:∀ d (h:d<sh.length),sh[d].is=true→sh[d].x.dH=((gs.countP (nZ ⟨(d:Int),(sh[d].gen:Int)⟩):Nat):Int)) (hk:k<gs.length)
  (H:∀ d (h':d<sh'.length),sh'[d].is=true→∃ h:d<sh.length,sh[d].is=true∧sh'[d].gen=sh[d].gen∧sh'[d].x.dH+(if nZ ⟨(d:Int),(sh[d].gen:Int)⟩ gs[k]=true then 1 else 0)=sh[d].x.dH+(if nZ ⟨(d:Int),(sh[d].gen:Int)⟩ y=true then 1 else 0)) :
  ∀ d (h:d<sh'.length),sh'[d].is=true→sh'[d].x.dH=(((gs.set k y).countP (nZ ⟨(d:Int),(sh'[d].gen:Int)⟩):Nat):Int):=fun d h hi=>by
 obtain⟨h1,h2,h3,h4⟩:=H d h hi
 have hc:=JR (p:=nZ ⟨(d:Int),(sh[d].gen:Int)⟩) (y:=y) hk
 have h5:=I d h1 h2
 rw[h3]
 split at hc<;>split at hc<;>simp_all<;>omega
theorem P3 {gs:List (Ob GD)}{sh:List (Ob SD)}{k d:Nat}{y:Ob GD}{z:Ob SD}(hd:d<sh.length) (hk:k<gs.length) (hz:z.gen=sh[d].gen) (hi:sh[d].is=true)
  (h0:∀ e,e≠d→(h:e<sh.length)→oP ⟨(e:Int),(sh[e].gen:Int)⟩ gs[k]=oP ⟨(e:Int),(sh[e].gen:Int)⟩ y)
  (h1:z.x.own+(if oP ⟨(d:Int),(sh[d].gen:Int)⟩ gs[k]=true then 1 else 0)=sh[d].x.own+(if oP ⟨(d:Int),(sh[d].gen:Int)⟩ y=true then 1 else 0)) :
  ∀ e (h':e<(sh.set d z).length),(sh.set d z)[e].is=true→∃ h:e<sh.length,sh[e].is=true∧(sh.set d z)[e].gen=sh[e].gen∧(sh.set d z)[e].x.own+(if oP ⟨(e:Int),(sh[e].gen:Int)⟩ gs[k]=true then 1 else 0)=sh[e].x.own+(if oP ⟨(e:Int),(sh[e].gen:Int)⟩ y=true then 1 else 0):=fun e h' hi'=>by
 have h:e<sh.length:=by simpa using h'
 by_cases q:e=d
 ·subst q;simp only[cU];exact⟨h,hi,hz,h1⟩
 ·have g:(sh.set d z)[e]=sh[e]:=cV (bV q) _;rw[g]at hi' ⊢;exact⟨h,hi',rfl,by rw[h0 e q h]⟩
theorem Ql {gs:List (Ob GD)}{sh:List (Ob XD)}{k d:Nat}{y:Ob GD}{z:Ob XD}(hd:d<sh.length) (hk:k<gs.length) (hz:z.gen=sh[d].gen) (hi:sh[d].is=true)
  (h0:∀ e,e≠d→(h:e<sh.length)→nZ ⟨(e:Int),(sh[e].gen:Int)⟩ gs[k]=nZ ⟨(e:Int),(sh[e].gen:Int)⟩ y)
  (h1:z.x.dH+(if nZ ⟨(d:Int),(sh[d].gen:Int)⟩ gs[k]=true then 1 else 0)=sh[d].x.dH+(if nZ ⟨(d:Int),(sh[d].gen:Int)⟩ y=true then 1 else 0)) :
  ∀ e (h':e<(sh.set d z).length),(sh.set d z)[e].is=true→∃ h:e<sh.length,sh[e].is=true∧(sh.set d z)[e].gen=sh[e].gen∧(sh.set d z)[e].x.dH+(if nZ ⟨(e:Int),(sh[e].gen:Int)⟩ gs[k]=true then 1 else 0)=sh[e].x.dH+(if nZ ⟨(e:Int),(sh[e].gen:Int)⟩ y=true then 1 else 0):=fun e h' hi'=>by
 have h:e<sh.length:=by simpa using h'
 by_cases q:e=d
 ·subst q;simp only[cU];exact⟨h,hi,hz,h1⟩
 ·have g:(sh.set d z)[e]=sh[e]:=cV (bV q) _;rw[g]at hi' ⊢;exact⟨h,hi',rfl,by rw[h0 e q h]⟩
theorem OB {o:Ob GD}{d e:Nat}{a b:Int}(h:o.x.gG=⟨(d:Int),a⟩) (ne:e≠d):oP ⟨(e:Int),b⟩ o=false:=by simp only[oP,h,Bool.and_eq_false_iff,decide_eq_false_iff_not];exact .inr fun q=>ne (Jq q).symm
theorem D8 {o:Ob GD}{d e:Nat}{a b:Int}(h:o.x.ctx=⟨(d:Int),a⟩) (ne:e≠d):nZ ⟨(e:Int),b⟩ o=false:=by simp only[nZ,h,Bool.and_eq_false_iff,decide_eq_false_iff_not];exact .inr fun q=>ne (Jq q).symm
theorem Bs.kill {n:Nat}{gs:List (Ob GD)}{fg:List Nat}{sh sh':List (Ob SD)}{cl Bk:List (Ob XD)}{np k:Nat}(I:Bs n gs fg sh cl np) (hk:k<gs.length) (hi:gs[k].is=true) (h1:∀ r k,aB sh r=some k→∃ k',aB sh' r=some k') (h2:∀ r k,aB cl r=some k→∃ k',aB Bk r=some k'):Bs (n+1) (gs.set k ⟨gs[k].gen+1,false,GD.zero⟩) (fg++[k]) sh' Bk np where
 gen:=(I.gen.mono (aL n)).set (Nat.le_add_left _ _) (by have:=(I.gen k hk).2;show gs[k].gen+1≤n+1+1;omega)
 fr:=I.fr.add hk hi rfl
 jF:=fun g hg=>by
  rw[cJ];split;·show (0:Nat)<256;decide
  ·exact I.jF g (by simpa using hg)
 live:=fun g hg hgi=>by
  have hg':g<gs.length:=by simpa using hg
  by_cases e:g=k;·subst e;simp at hgi
  ·have q:(gs.set k ⟨gs[k].gen+1,false,GD.zero⟩)[g]=gs[g]:=cV (bV e) _;rw[q]at hgi ⊢;exact(I.live g hg' hgi).of h1 h2 rfl rfl rfl (I.live g hg' hgi).yn
theorem Sw.kill {gs:List (Ob GD)}{sh:List (Ob SD)}{cl:List (Ob XD)}{k d j:Nat}(I:Sw gs sh cl) (h16:gs.length≤16) (hk:k<gs.length) (hi:gs[k].is=true) (hd:d<sh.length) (hdi:sh[d].is=true) (hde:gs[k].x.gG=⟨(d:Int),(sh[d].gen:Int)⟩) (hj:j<cl.length) (hji:cl[j].is=true) (hje:gs[k].x.ctx=⟨(j:Int),(cl[j].gen:Int)⟩) :
  Sw (gs.set k ⟨gs[k].gen+1,false,GD.zero⟩) (sh.set d (Mc sh[d])) (cl.set j (rP cl[j])) where
 own:=Jm I.own hk (P3 hd hk rfl hdi (fun e ne he=>by rw[OB hde ne];rfl) (by
  have hon:oP ⟨(d:Int),(sh[d].gen:Int)⟩ gs[k]=true:=by simp[oP,hi,hde]
  have h0:oP ⟨(d:Int),(sh[d].gen:Int)⟩ (⟨gs[k].gen+1,false,GD.zero⟩:Ob GD)=false:=rfl;rw[hon,h0];have h1:=I.own d hd hdi;have h2:=lX (p:=oP ⟨(d:Int),(sh[d].gen:Int)⟩) h16;have h3:0<gs.countP (oP ⟨(d:Int),(sh[d].gen:Int)⟩):=zE.2 ⟨_,bG hk,hon⟩;simp only[Mc];rw[wrap_i64 ah ah];simp))
 dH:=Ed I.dH hk (Ql hj hk rfl hji (fun e ne he=>by rw[D8 hje ne];rfl) (by
  have hon:nZ ⟨(j:Int),(cl[j].gen:Int)⟩ gs[k]=true:=by simp[nZ,hi,hje]
  have h0:nZ ⟨(j:Int),(cl[j].gen:Int)⟩ (⟨gs[k].gen+1,false,GD.zero⟩:Ob GD)=false:=rfl;rw[hon,h0];have h1:=I.dH j hj hji;have h2:=lX (p:=nZ ⟨(j:Int),(cl[j].gen:Int)⟩) h16;have h3:0<gs.countP (nZ ⟨(j:Int),(cl[j].gen:Int)⟩):=zE.2 ⟨_,bG hk,hon⟩;simp only[rP];rw[wrap_i64 ah ah];simp))
theorem Inv.kill {n:Nat}{M:MD}{k d j:Nat}{ax:List KD}(I:Inv n M) (hn:n≤300) (hk:k<M.gs.length) (hi:M.gs[k].is=true) (hd':aB M.sh M.gs[k].x.gG=some d) (hd:d<M.sh.length) (hj':aB M.cl M.gs[k].x.ctx=some j) (hj:j<M.cl.length) (c:ud ax M.cw) (hcl:ax.length≤M.ax.length):Inv (n+1) (M.kill k d j hk hd hj ax):=by obtain⟨_,hdi,hde⟩:=cE hd';obtain⟨_,hji,hje⟩:=cE hj';have I1:=(I.R_ hn ⟨hk,hi⟩).mono (aL n);obtain⟨_,ho⟩:=Gg I.q k;have hgne:∀ z (h:z<M.gs.length),z≠k→(M.gs.set k ⟨M.gs[k].gen+1,false,GD.zero⟩)[z]'(by simpa using h)=M.gs[z]:=fun z h e=>cV (bV e) _;have wS:Md (M.sh.set d (Mc M.sh[d])) M.sh:=JJ hd rfl rfl rfl rfl;have wC:P_ (M.cl.set j (rP M.cl[j])) M.cl:=CO hj rfl rfl;have hlen:(M.gs.set k ⟨M.gs[k].gen+1,false,GD.zero⟩).length=M.gs.length:=an;exact { I1 with
   q:=I1.q.of hlen rfl rfl rfl
   lv:=fun z hz=>by
     have hz:0<dS (M.off k).all (M.off k).ps z:=hz;rw[ho]at hz;by_cases e:z=k;· rw[if_pos e]at hz;omega
     · rw[if_neg e]at hz;obtain⟨h,hz⟩:=I.lv z hz;exact⟨by show z<(M.gs.set k _).length;rw[hlen];exact h,(congrArg Ob.is (hgne z h e)).trans hz⟩
   t := fun t ht=>by obtain⟨g,e,h,hz⟩:=I1.t t ht;have hne:g≠k:=fun q=>Jp t ht (by rw[e,q]);exact⟨g,e,by show g<(M.gs.set k _).length;rw[hlen];exact h,(congrArg Ob.is (hgne g h hne)).trans hz⟩
   gl:=by show (M.gs.set k _).length≤16;rw[hlen];exact I.gl
   sl:=by show (M.sh.set d _).length≤1000;rw[cS];exact I.sl
   cl:=by show (M.cl.set j _).length≤1000;rw[cS];exact I.cl
   S:=(I.S.of wS).mono (aL n)
   C := (I.C.of wC fun i h=>by
     rw[cJ];split;· exact I.C.ref j hj
     · exact I.C.ref i (by simpa using h)).mono (aL n)
   G:=I.G.kill hk hi wS.Gh wC.Gh
   T:=I.T.kill I.gl hk hi hd hdi hde hj hji hje
   K:=c
   kl:=bO hcl I.kl }
def KL (o:Ob SD):Ob SD:={ o with x:={ o.x with own:=IntKind.wrap .i64 (o.x.own+1) } }
def Ab (o:Ob XD):Ob XD:={ o with x:={ o.x with dH:=IntKind.wrap .i64 (o.x.dH+1) } }
theorem Sw.born {gs:List (Ob GD)}{sh:List (Ob SD)}{cl:List (Ob XD)}{k d j:Nat}{x:GD}(I:Sw gs sh cl) (h16:gs.length≤16) (hk:k<gs.length) (hi:gs[k].is=false) (hd:d<sh.length) (hdi:sh[d].is=true) (hde:x.gG=⟨(d:Int),(sh[d].gen:Int)⟩) (hj:j<cl.length) (hji:cl[j].is=true) (hje:x.ctx=⟨(j:Int),(cl[j].gen:Int)⟩) :
  Sw (gs.set k ⟨gs[k].gen,true,x⟩) (sh.set d (KL sh[d])) (cl.set j (Ab cl[j])) where
 own:=Jm I.own hk (P3 hd hk rfl hdi (fun e ne he=>by rw[OB (o:=⟨gs[k].gen,true,x⟩) hde ne];simp[oP,hi]) (by
  have hon:oP ⟨(d:Int),(sh[d].gen:Int)⟩ (⟨gs[k].gen,true,x⟩:Ob GD)=true:=by simp[oP,hde]
  have h0:oP ⟨(d:Int),(sh[d].gen:Int)⟩ gs[k]=false:=by simp[oP,hi]
  rw[hon,h0];have h1:=I.own d hd hdi;have h2:=lX (p:=oP ⟨(d:Int),(sh[d].gen:Int)⟩) h16;simp only[KL];rw[wrap_i64 ah ah];simp))
 dH:=Ed I.dH hk (Ql hj hk rfl hji (fun e ne he=>by rw[D8 (o:=⟨gs[k].gen,true,x⟩) hje ne];simp[nZ,hi]) (by
  have hon:nZ ⟨(j:Int),(cl[j].gen:Int)⟩ (⟨gs[k].gen,true,x⟩:Ob GD)=true:=by simp[nZ,hje]
  have h0:nZ ⟨(j:Int),(cl[j].gen:Int)⟩ gs[k]=false:=by simp[nZ,hi]
  rw[hon,h0];have h1:=I.dH j hj hji;have h2:=lX (p:=nZ ⟨(j:Int),(cl[j].gen:Int)⟩) h16;simp only[Ab];rw[wrap_i64 ah ah];simp))
theorem Inv.born {n:Nat}{M:MD}{k d j:Nat}{fl:List Nat}{x:GD}(I:Inv n M) (hf:M.fg=fl++[k]) (hk:k<M.gs.length) (hd:d<M.sh.length) (hdi:M.sh[d].is=true) (hde:x.gG=⟨(d:Int),(M.sh[d].gen:Int)⟩) (hj:j<M.cl.length) (hji:M.cl[j].is=true) (hje:x.ctx=⟨(j:Int),(M.cl[j].gen:Int)⟩)
   (haf:x.jF<256) (hp:0≤x.prog∧x.prog<(M.cfg.cG.length:Int)) (hr:oa x) :
   Inv n { M with fg:=fl,gs:=M.gs.set k ⟨M.gs[k].gen,true,x⟩,sh:=M.sh.set d (KL M.sh[d]),cl:=M.cl.set j (Ab M.cl[j]) }∧dS M.all M.ps k=0:=by
 have frk:=I.G.fr
 rw[hf]at frk
 obtain⟨_,hi⟩:=frk.off k an
 have hgne:∀ z (h:z<M.gs.length),z≠k→(M.gs.set k ⟨M.gs[k].gen,true,x⟩)[z]'(by simpa using h)=M.gs[z]:=fun z h e=>cV (bV e) _
 have wS:Md (M.sh.set d (KL M.sh[d])) M.sh:=JJ hd rfl rfl rfl rfl
 have wC:P_ (M.cl.set j (Ab M.cl[j])) M.cl:=CO hj rfl rfl
 have hlen:(M.gs.set k ⟨M.gs[k].gen,true,x⟩).length=M.gs.length:=an
 have Gh:∀ z,(∃ h:z<M.gs.length,M.gs[z].is=true)→∃ h:z<(M.gs.set k ⟨M.gs[k].gen,true,x⟩).length,(M.gs.set k ⟨M.gs[k].gen,true,x⟩)[z].is=true:=fun z ⟨h,hz⟩=>by
   refine⟨by rw[hlen];exact h,?_⟩;rw[cJ];split;· rfl
   · exact hz
 refine⟨{ I with
   q:=I.q.of hlen rfl rfl rfl
   lv:=fun z hz=>Gh z (I.lv z hz)
   t := fun t ht=>by obtain⟨g,e,h⟩:=I.t t ht;exact⟨g,e,Gh g h⟩
   gl:=by show (M.gs.set k _).length≤16;rw[hlen];exact I.gl
   sl:=by show (M.sh.set d _).length≤1000;rw[cS];exact I.sl
   cl:=by show (M.cl.set j _).length≤1000;rw[cS];exact I.cl
   S:=I.S.of wS
   C := I.C.of wC fun i h=>by
     rw[cJ];split;· exact I.C.ref j hj
     · exact I.C.ref i (by simpa using h)
   G := {
     gen:=I.G.gen.set (I.G.gen k hk).1 (I.G.gen k hk).2
     fr:=frk.pop
     jF:=fun g hg=>by
       have hg:g<(M.gs.set k ⟨M.gs[k].gen,true,x⟩).length:=hg;show (M.gs.set k ⟨M.gs[k].gen,true,x⟩)[g].x.jF<256;rw[cJ];split;· exact haf
       · exact I.G.jF g (by simpa using hg)
     live:=fun g hg hgi=>by
       have hg:g<(M.gs.set k ⟨M.gs[k].gen,true,x⟩).length:=hg;have hgi:(M.gs.set k ⟨M.gs[k].gen,true,x⟩)[g].is=true:=hgi;show Yo _ _ _ (M.gs.set k ⟨M.gs[k].gen,true,x⟩)[g].x;have hg':g<M.gs.length:=by simpa using hg
       by_cases e:g=k
       · subst e;simp only[cU];refine⟨⟨d,?_⟩,⟨j,?_⟩,hp,hr⟩;· rw[wS.live,hde];exact fh hd hdi
         · rw[wC.live,hje];exact fh hj hji
       · rw[hgne g hg' e]at hgi ⊢;exact(I.G.live g hg' hgi).of wS.Gh wC.Gh rfl rfl rfl (I.G.live g hg' hgi).yn }
   T:=I.T.born I.gl hk hi hd hdi hde hj hji hje },?_⟩
 cases h0:dS M.all M.ps k with
 | zero=>rfl
 | succ m =>
   obtain⟨_,hz⟩:=I.lv k ah
   rw[hi]at hz;cases hz
def kP (cl:List (Ob XD)) (j1 j2:Nat) (h1:j1<cl.length) (h2:j2<cl.length):List (Ob XD):=(cl.set j1 (rP cl[j1])).set j2 (Ab ((cl.set j1 (rP cl[j1]))[j2]'(by simpa using h2)))
theorem LL {cl:List (Ob XD)}{j1 j2:Nat}{h1:j1<cl.length}{h2:j2<cl.length}(hb:∀ j (h:j<cl.length),cl[j].is=true→-1000≤cl[j].x.dH∧cl[j].x.dH≤1000) (i1:cl[j1].is=true) (i2:cl[j2].is=true) {e:Nat}(he:e<cl.length) (he':e<(kP cl j1 j2 h1 h2).length) :
  (kP cl j1 j2 h1 h2)[e].gen=cl[e].gen∧(kP cl j1 j2 h1 h2)[e].is=cl[e].is∧(kP cl j1 j2 h1 h2)[e].x.ref=cl[e].x.ref∧(kP cl j1 j2 h1 h2)[e].x.dH+(if e=j1 then 1 else 0)=cl[e].x.dH+(if e=j2 then 1 else 0):=by
 have b1:=hb j1 h1 i1
 have b2:=hb j2 h2 i2
 by_cases q1:e=j1
 ·subst q1;by_cases q2:e=j2
  ·subst q2;have g:(kP cl e e h1 h2)[e]=Ab (rP cl[e]):=by simp[kP]
   rw[g];refine⟨rfl,rfl,rfl,?_⟩;have w1:IntKind.wrap .i64 (cl[e].x.dH-1)=cl[e].x.dH-1:=wrap_i64 ah ah;have w2:IntKind.wrap .i64 (cl[e].x.dH-1+1)=cl[e].x.dH-1+1:=wrap_i64 ah ah;simp only[Ab,rP,w1,w2,if_pos];omega
  ·have g:(kP cl e j2 h1 h2)[e]=rP cl[e]:=by simp[kP,cV (bV q2)]
   rw[g];refine⟨rfl,rfl,rfl,?_⟩;have w1:IntKind.wrap .i64 (cl[e].x.dH-1)=cl[e].x.dH-1:=wrap_i64 ah ah;simp only[rP,w1,if_pos,if_neg q2];omega
 ·by_cases q2:e=j2
  ·subst q2;have g:(kP cl j1 e h1 h2)[e]=Ab cl[e]:=by simp[kP,cV (bV q1)]
   rw[g];refine⟨rfl,rfl,rfl,?_⟩;have w1:IntKind.wrap .i64 (cl[e].x.dH+1)=cl[e].x.dH+1:=wrap_i64 ah ah;simp only[Ab,w1,if_pos,if_neg q1];omega
  ·have g:(kP cl j1 j2 h1 h2)[e]=cl[e]:=by simp[kP,cV (bV q1),cV (bV q2)]
   rw[g,if_neg q1,if_neg q2];exact⟨rfl,rfl,rfl,rfl⟩
theorem Inv.bind {n:Nat}{M:MD}{k j1 j2:Nat}(I:Inv n M) (hk:k<M.gs.length) (hi:M.gs[k].is=true) (h1:j1<M.cl.length) (h1':aB M.cl M.gs[k].x.ctx=some j1) (h2:j2<M.cl.length) (i2:M.cl[j2].is=true) :
   Inv n { M with cl:=kP M.cl j1 j2 h1 h2,gs:=M.gs.set k { M.gs[k]with x:={ M.gs[k].x with ctx:=⟨(j2:Int),(M.cl[j2].gen:Int)⟩ } } }:=by
 obtain⟨_,i1,e1⟩:=cE h1'
 have hb:∀ j (h:j<M.cl.length),M.cl[j].is=true→-1000≤M.cl[j].x.dH∧M.cl[j].x.dH≤1000:=fun j h hj=>by have:=I.T.dH j h hj;have:=lX (p:=nZ ⟨(j:Int),(M.cl[j].gen:Int)⟩) I.gl;omega
 have hlen:(kP M.cl j1 j2 h1 h2).length=M.cl.length:=by simp[kP]
 have G:=fun e (he:e<M.cl.length) (he':e<(kP M.cl j1 j2 h1 h2).length)=>LL (h1:=h1) (h2:=h2) hb i1 i2 he he'
 generalize kP M.cl j1 j2 h1 h2=Bk at hlen G
 have wC:P_ Bk M.cl:=⟨hlen,fun e h h'=>(G e h' h).1,fun e h h'=>(G e h' h).2.1⟩
 generalize hy:({ M.gs[k]with x:={ M.gs[k].x with ctx:=⟨(j2:Int),(M.cl[j2].gen:Int)⟩ } }:Ob GD)=y
 have yi:y.is=true:=by rw[← hy];exact hi
 have Gh:∀ z,(∃ h:z<M.gs.length,M.gs[z].is=true)→∃ h:z<(M.gs.set k y).length,(M.gs.set k y)[z].is=true:=fun z ⟨h,hz⟩=>by
   refine⟨by simpa using h,?_⟩;rw[cJ];split;· exact yi
   · exact hz
 exact { I with
   q:=I.q.of an rfl rfl rfl
   lv:=fun z hz=>Gh z (I.lv z hz)
   t := fun t ht=>by obtain⟨g,e,h⟩:=I.t t ht;exact⟨g,e,Gh g h⟩
   gl:=by show (M.gs.set k y).length≤16;rw[cS];exact I.gl
   cl:=by show Bk.length≤1000;rw[hlen];exact I.cl
   C:=I.C.of wC fun i h=>by rw[(G i (hlen▸h) h).2.2.1];exact I.C.ref i (hlen▸h)
   G := {
     gen:=I.G.gen.set (by rw[← hy];exact(I.G.gen k hk).1) (by rw[← hy];exact(I.G.gen k hk).2)
     fr:=I.G.fr.of an fun z h h'=>by
       rw[cJ];split;· rename_i e;subst e;rw[yi,hi]
       · rfl
     jF:=fun g hg=>by
       have hg:g<(M.gs.set k y).length:=hg;show (M.gs.set k y)[g].x.jF<256;rw[cJ];split;· rw[← hy];exact I.G.jF k hk
       · exact I.G.jF g (by simpa using hg)
     live:=fun g hg hgi=>by
       have hg:g<(M.gs.set k y).length:=hg;have hgi:(M.gs.set k y)[g].is=true:=hgi;show Yo _ _ _ (M.gs.set k y)[g].x;have hg':g<M.gs.length:=by simpa using hg
       by_cases e:g=k;· subst e;simp only[cU];have gk:=I.G.live g hk hi;rw[← hy];exact⟨gk.gG,⟨j2,by rw[wC.live];exact fh h2 i2⟩,gk.prog,gk.yn⟩
       · rw[cV (bV e)]at hgi ⊢;exact(I.G.live g hg' hgi).of (fun r k h=>⟨k,h⟩) wC.Gh rfl rfl rfl (I.G.live g hg' hgi).yn }
   T := {
     own:=fun d hd hdi=>by
       have:(M.gs.set k y).countP (oP ⟨(d:Int),(M.sh[d].gen:Int)⟩)=M.gs.countP (oP ⟨(d:Int),(M.sh[d].gen:Int)⟩):=countP_eq an fun z h h'=>by
         rw[cJ];split;· rename_i e;subst e;rw[← hy];rfl
         · rfl
       show M.sh[d].x.own=(((M.gs.set k y).countP (oP ⟨(d:Int),(M.sh[d].gen:Int)⟩):Nat):Int);rw[this];exact I.T.own d hd hdi
     dH:=Ed I.T.dH hk fun e h' hi'=>by
       have h:e<M.cl.length:=hlen▸h';obtain⟨a,b,c,d⟩:=G e h h';refine⟨h,b▸hi',a,?_⟩;have o1:nZ ⟨(e:Int),(M.cl[e].gen:Int)⟩ M.gs[k]=decide (e=j1):=by
         by_cases q:e=j1;· subst q;simp[nZ,hi,e1]
         · rw[decide_eq_false q];exact D8 e1 q
       have o2:nZ ⟨(e:Int),(M.cl[e].gen:Int)⟩ y=decide (e=j2):=by
         by_cases q:e=j2;· subst q;rw[← hy];simp[nZ,hi]
         · rw[decide_eq_false q];exact D8 (o:=y) (a:=(M.cl[j2].gen:Int)) (by rw[← hy]) q
       rw[o1,o2];simpa using d } }
theorem Fj {α:Type}{l:List (Ob α)}{k:Nat}{y:Ob α}(hk:k<l.length) (hi:l[k].is=false):∀ r d,aB l r=some d→aB (l.set k y) r=some d:=fun r d h=>by
 obtain⟨h1,h2,h3,h4⟩:=aH.1 h;have hne:k≠d:=fun e=>by subst e;rw[hi]at h3;cases h3
 refine aH.2 ⟨by simpa using h1,h2,?_,?_⟩;·rw[cV hne];exact h3
 ·rw[cV hne];exact h4
theorem Inv.split {n:Nat}{M:MD}{i:Nat}{fl:List Nat}{cl:List (Ob XD)}{x:XD}(I:Inv n M) (hf:M.fc=fl++[i]) (hi:i<M.cl.length) (hx:x.dH=0) (E:wG cl (M.cl.set i ⟨M.cl[i].gen,true,x⟩)) (r:kQ cl):Inv n { M with fc:=fl,cl:=cl }:=by have frk:=I.C.fr;rw[hf]at frk;obtain⟨_,h0⟩:=frk.off i an;have lv:=Fj (y:=⟨M.cl[i].gen,true,x⟩) hi h0;have lv':∀ r k,aB M.cl r=some k→∃ k',aB cl r=some k':=fun r k h=>E.Gh r k (lv r k h);exact { I with
   q:=I.q.of rfl rfl rfl rfl
   cl:=by show cl.length≤1000;rw[E.len,cS];exact I.cl
   C := {
     gen:=fun k h=>by rw[E.gen k h (E.len▸h)];exact(I.C.gen.set (y:=⟨M.cl[i].gen,true,x⟩) (I.C.gen i hi).1 (I.C.gen i hi).2) k _
     fr:=frk.pop.of E.len E.is
     ref:=r }
   G:=I.G.of (.refl _) (fun r k h=>⟨k,h⟩) lv'
   T := {
     own:=I.T.own
     dH:=fun j hj hji=>by
       have hj':j<(M.cl.set i ⟨M.cl[i].gen,true,x⟩).length:=E.len▸hj;have hj2:j<M.cl.length:=by simpa using hj'
       show cl[j].x.dH=((M.gs.countP (nZ ⟨(j:Int),(cl[j].gen:Int)⟩):Nat):Int);have hji:cl[j].is=true:=hji;rw[E.dH j hj hj',E.gen j hj hj'];rw[E.is j hj hj']at hji;by_cases e:i=j
       · subst e;simp only[cU,hx];have:M.gs.countP (nZ ⟨(i:Int),(M.cl[i].gen:Int)⟩)=0:=tq.2 fun o ho hon=>by obtain⟨g,hg,rfl⟩:=eU ho;simp only[nZ,aZ,decide_eq_true_eq]at hon;obtain⟨j,hj⟩:=(I.G.live g hg hon.1).ctx;rw[hon.2]at hj;obtain⟨q1,q2,q3,_⟩:=aH.1 hj;simp only at q2;have:i=j:=ah;subst this;rw[h0]at q3;cases q3
         rw[this];rfl
       · rw[cV e]at hji ⊢;exact I.T.dH j hj2 hji } }
end Go.Proofs.YthjlppdnlahhoaaGreat

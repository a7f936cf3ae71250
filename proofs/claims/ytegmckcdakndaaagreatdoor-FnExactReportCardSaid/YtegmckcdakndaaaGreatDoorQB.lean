/- What a call may hold, as plain values and a store: a small machine over them, the functions of this program as its contracts, and the plain laws: texts Px24 to Px34. -/
import Derived.Test.YtegmckcdakndaaaGreatDoorQA
import Derived.Laws.Tables
import Derived.Great.BuildSlice
import Derived.Great.FillDense
import Derived.Laws.MakeOwn
set_option linter.unusedSimpArgs false
set_option linter.unusedVariables false
set_option linter.constructorNameAsVariable false
namespace Go.Px
variable {S S' S1 S2:Nat->Prop} {k:K} {G i j n off ver:Nat} {J J' J0:Nat->Option (Nat×Nat)} {N:Nat->List Nat} {u:Value} {x:Operand} {w w':World} {f:FuncId} {us:List Value} {s s2 σ σ' σ0:cU} {p q:PV} {A B L L1 L2 La m pk:List Nat} {mv:Bool} {α:Type} {ps:List PV} {locs:List (Nat×Nat)} {Le:List (List Nat)} {exts':List (List PV)}
open Go.RowKit
section
variable {P:Program} {PC:rU} {X:mM} {nt:Nat} {Q:Exit->Act->World->Prop} {Z:gU} {a:Act} {w:World} {o:Oper} {v:PV} {s':cU} {r wr:List Nat}
theorem aJq {p:Option Addr} {c:Nat} {l:List (ty k)} (h:wY S w k (.slice p n c) l) {m:Nat} (hij:i<=j) (W:j<=l.length) (hm:m<=c) (hjm:j<=m) :
  wY S w k (.slice (if m=i then p else p.map (·.add (i*size k))) (j-i) (m-i)) ((l.take j).drop i):=by
 obtain⟨p',cap,e,h1,h2,h3⟩:=h
 cases e
 have z:((l.take j).drop i).length=j-i:=by rw[cA,aF];omega
 refine⟨_,m-i,by rw[z],by omega,by omega,fun H=> ?_⟩
 have hji:i<j:=by
  rcases rP i j with h|h
  ·exact h
  ·exfalso;apply H;apply aR;omega
 obtain⟨b,off,rfl,hb,h4⟩:=h3 (by intro e;rw[e]at W;simp at W;omega)
 rw[if_neg (by omega)]
 refine⟨b,off+i*size k,by simp[nH],hb,fun D x I M lf R=> ?_⟩
 have hi':D<j-i:=by have:=(iR.1 I).1;omega
 rw[bK,aU,if_pos (by omega)]at I
 obtain⟨u,Y,h5⟩:=h4 (i+D) x I M lf R
 exact⟨u,by rw[cF]at Y;rw[show off+i*size k+D*size k+M=off+(i*size k+D*size k)+M by omega];exact Y,h5⟩
theorem aEt (e:St X Z w a.tmps J N) (z:a.tmps.size=nt) {x:Option Operand} (D:∀y,x=some y->dI nt y=true):aAh (gM (Fz X w N Z.s) w J Z.s) (x.map (opd Z.t)) (x.map a.eval):=by
 cases x with
 | none=>trivial
 | some y=>exact e.opd z (D y rfl)
set_option maxHeartbeats 1000000 in
theorem PT (hF:fT P) {tm:Array Value} (hst:St X Z w tm J N) {t:TypeId} {x:PV} {lo hi:Option PV} {ul uh:Option Value} (hv:gM (Fz X w N Z.s) w J Z.s x u)
  (hl:aAh (gM (Fz X w N Z.s) w J Z.s) lo ul) (Y:aAh (gM (Fz X w N Z.s) w J Z.s) hi uh) (h:(PS t x lo hi).Run PC Z.s v s' r wr) :
  s'=Z.s/\∃q,(∀w0:World,(Instr.sliceAt t u ul uh none).run P w0= .ok q w0/\(Instr.slice t u ul uh none).run P w0= .ok q w0)/\gM (Fz X w N Z.s) w J Z.s v q:=by
 unfold PS at h
 split at h
 case h_4=>exact h.elim
 case h_1=>
  rename_i s
  split at h
  case isFalse=>exact h.elim
  rename_i ht
  obtain⟨p,q,H,h⟩:=DS h
  obtain⟨rfl,rfl,-,-⟩:v=_/\s'=_/\r=[]/\wr=[]:=h
  obtain⟨_,h2,h3⟩:=sR (P:=P) (w0:=w) (isS:=false) hl Y (bB _) H
  refine⟨rfl,.string (s.extract p q),fun w0=> ?_,⟨rfl,?_⟩⟩
  ·obtain⟨M,_,_⟩:=sR (P:=P) (w0:=w0) (isS:=false) hl Y (bB _) H
   rw[show u= .string s from hv.1]
   refine⟨?_,?_⟩ <;>simp[Instr.sliceAt,run_underlying (hF.str t ht),Instr.slice,M]
  ·have:=hv.2
   show(s.extract p q).size<=_
   have h4:(s.extract p q).size<=s.size:=by rw[ByteArray.size_extract];omega
   have h5:s.size<=9223372036854775807:=hv.2
   omega
 case h_2=>
  rename_i k l
  split at h
  case isFalse=>exact h.elim
  rename_i hk
  obtain⟨p,q,H,h⟩:=DS h
  rw[aIP H]at h
  obtain⟨rfl,rfl,-,-⟩:v=_/\s'=_/\r=[]/\wr=[]:=h
  obtain⟨_,hrow⟩:=hv
  obtain⟨pa,cap,e1,R,_⟩:=id hrow
  obtain⟨_,h2,h3⟩:=sR (P:=P) (w0:=w) (isS:=true) hl Y R H
  obtain⟨i,z,q1,q2,q3,q4,q5,-⟩:=hF.el k
  subst e1
  refine⟨rfl,_,fun w0=> ?_,⟨rfl,aJq hrow h2 h3 (bB _) (aX h3 R)⟩⟩
  obtain⟨M,_,_⟩:=sR (P:=P) (w0:=w0) (isS:=true) hl Y R H
  refine⟨?_,?_⟩ <;>simp[Instr.sliceAt,run_underlying (hF.sl t k hk),Instr.slice,M,sizeOf,typeInfo,q1,q3]
 case h_3=>
  rename_i id ver off n full
  obtain⟨k1,_,k3⟩:=hv
  obtain⟨blk,r',H,rfl,h⟩:=fM h
  have go:∀(k:K) (l:List (ty k)),kR blk k l->(if F3 t=some k then E4 n lo hi fun p q=> .ret (.ref id ver (off+p) (q-p) (full&&lo.isNone&&hi.isNone))else .fail:eM PV).Run PC Z.s v s' r' wr->s'=Z.s/\∃q,(∀w0:World,(Instr.sliceAt t u ul uh none).run P w0= .ok q w0/\(Instr.slice t u ul uh none).run P w0= .ok q w0)/\gM (Fz X w N Z.s) w J Z.s v q:=by
   intro k l W h
   split at h
   case isFalse=>exact h.elim
   rename_i hk
   obtain⟨p,q,D,h⟩:=DS h
   obtain⟨rfl,rfl,-,-⟩:v=_/\s'=_/\r'=[]/\wr=[]:=h
   obtain⟨i,z,q1,q2,q3,q4,q5,-⟩:=hF.el k
   obtain⟨e1,R⟩:=k3 _ k l H W
   have run:∀(pa:Option Addr) (c:Nat),n<=c->u= .slice pa n c->(∀w0:World,(Instr.sliceAt t u ul uh none).run P w0= .ok (.slice (if c=p then pa else pa.map (·.add (p*size k))) (q-p) (c-p)) w0/\(Instr.slice t u ul uh none).run P w0= .ok (.slice (if c=p then pa else pa.map (·.add (p*size k))) (q-p) (c-p)) w0)/\p<=q/\q<=n:=by
    intro pa c hc he
    obtain⟨_,h2,h3⟩:=sR (P:=P) (w0:=w) (isS:=true) hl Y hc D
    refine⟨fun w0=> ?_,h2,h3⟩
    obtain⟨M,_,_⟩:=sR (P:=P) (w0:=w0) (isS:=true) hl Y hc D
    rw[he]
    refine⟨?_,?_⟩ <;>simp[Instr.sliceAt,run_underlying (hF.sl t k hk),Instr.slice,M,sizeOf,typeInfo,q1,q3]
   rcases R with⟨R,e3⟩ |⟨b,c,o2,R,e3,e4,e5,e6⟩
   ·have hn:n=0:=by
     have hblk:=uD W (hst.blk id _ (by rw[H]))
     have:l=[]:=by
      rcases hblk with⟨_,e,_⟩ |⟨b,cap,cur,q,_⟩;exact e;simp_all
     subst this
     simp at e1;omega
    subst hn
    obtain⟨M,h2,h3⟩:=run none 0 (bB _) e3
    have hq0:q=0:=by omega
    have hp0:p=0:=by omega
    subst hq0 hp0
    refine⟨rfl,_,M,⟨k1,⟨_,_,_,rfl⟩,fun blk2 k2 l2 I hr2=> ?_⟩⟩
    rw[H]at I
    cases I
    cases W.same hr2
    exact⟨by omega,.inl ⟨R,by simp⟩⟩
   ·obtain⟨M,h2,h3⟩:=run _ c e3 e4
    refine⟨rfl,_,M,⟨k1,⟨_,_,_,rfl⟩,fun blk2 k2 l2 I hr2=> ?_⟩⟩
    rw[H]at I
    cases I
    cases W.same hr2
    refine⟨by omega,.inr ⟨b,c-p,if c=p then o2 else o2+p*size k,R,by omega,?_,fun hz=> ?_,fun hf=> ?_⟩⟩
    ·split
     ·rfl
     ·simp[nH]
    ·rcases hz with hz|hz
     ·rw[if_neg (by omega),e5 (.inl (by omega)),cF]
     ·simp only[aB]at hz
      obtain⟨⟨hz1,hz2⟩,hz3⟩:=hz
      have hlo:lo=none:=by cases lo<;>simp_all
      have hp0:p=0:=by
       subst hlo
       unfold xD at D
       split at D
       ·cases D
       ·simp only[yF]at D
        cases D;rfl
      subst hp0
      have:=e5 (.inr hz1)
      split<;>simp_all
    ·simp only[aB]at hf
     obtain⟨⟨hz1,hz2⟩,hz3⟩:=hf
     have hlo:lo=none:=by cases lo<;>simp_all
     have hhi:hi=none:=by cases hi<;>simp_all
     subst hlo hhi
     simp only[xD,yF,Option.some.injEq,Prod.mk.injEq]at D
     obtain⟨rfl,rfl⟩:=D
     obtain⟨f1,f2,f3⟩:=e6 hz1
     exact⟨by omega,by omega,fun cur E fz Y=>by rw[Nat.sub_zero];exact f3 cur E fz Y⟩
  cases blk with
  | box cs=>exact h.elim
  | objb o=>exact h.elim
  | iterb=>exact h.elim
  | rowb k l=>exact go k l .b h
  | rowd k l=>exact go k l .d h
  | rowx k l i cs=>exact h.elim
theorem XU (M:fT P) {t:TypeId} {lo D:Option Operand} (R:o.op= .slice t x lo D none) (W:dI nt x=true) (H:∀y,lo=some y->dI nt y=true) (I:∀y,D=some y->dI nt y=true) (Y:cE X nt Z a w)
  (h:(PS t (opd Z.t x) (lo.map (opd Z.t)) (D.map (opd Z.t))).Run PC Z.s v s' r wr):o.wp P a w (fun a' w'=>cE X nt ⟨eJ o.dst v Z.t,s'⟩ a' w') Q:=by
 obtain⟨z,hd,J,N,e⟩:=id Y
 obtain⟨rfl,q,h1,h2⟩:=PT M e (e.opd z W) (aEt e z H) (aEt e z I) h
 refine cK z hd e ?_ h2
 unfold execOp
 simp only[R,Sem.run_bind,Sem.run_pure,Result.andThen_ok,Option.map_none,(h1 w).1]
theorem St.more {X:mM} {Z:gU} {w:World} {tm:Array Value} (h:St X Z w tm J N) (e:Below w.heap.size w w'):Tr (Fz X w N Z.s) (Fz X w' N Z.s) w w' J J Z.s Z.s/\St X Z w' tm J N:=by
 obtain⟨I,M,R,D,z⟩:=e
 refine St.step (Z:=Z) h Z.s (fun _=>False) D (fun b e _=>z b e) (fun _ _=>⟨rfl,rfl,rfl⟩) (fun _ h=>h.elim) (fun _ h=>h.elim) (fun _ _ h=>h.elim) (fun _ _ h=>h.elim) (fun _ _ h=>h.elim) (fun _ _ _ _ h=>h.elim) (fun _ _ _ h=>h.elim) (fun _ _ _ _ h=>h.elim) ?_ (X.cl _ _ h.env fun b e=>z b (eQ (eQ e X.hw) h.frm.size))
 obtain⟨W,Y,h3,H,h5,h6⟩:=h.frm
 refine⟨I.trans W,M.trans Y,R.trans h3,aX H D,fun b e hf=>(z b (eQ e H)).trans (h5 b e hf),fun j b off n hj hl=> ?_⟩
 obtain⟨c0,c,E,fz,q1,q2,q3⟩:=h6 j b off n hj hl
 exact⟨c0,c,E,fz,q1,(z b (Array.getElem?_eq_some_iff.1 q2).1).trans q2,q3⟩
def aKU (t:TypeId) (args:List PV):eM PV:=match args with
 | [.agg [.v (.int .i64 W),.v (.int .i64 H),c],.v (.int .i64 y)]=>NR (cN .i64 (y*W)) (NR (cN .i64 (y+1)) (NR (cN .i64 ((y+1)*W)) (PS t c (some (.v (.int .i64 (y*W)))) (some (.v (.int .i64 ((y+1)*W)))))))
 | _=> .fail
theorem aCM (hF:fT P) {t:TypeId} (hf:aLA f=some t) {args:List PV} (z:(execOp a.eval o).run P w=(callFunc f us.toArray).run P w) (hg:cE X nt Z a w)
  (R:∀J N,St X Z w a.tmps J N->bC (gM (Fz X w N Z.s) w J Z.s) args us) (h:(aKU t args).Run PC Z.s v s' r wr):o.wp P a w (fun a' w'=>cE X nt ⟨eJ o.dst v Z.t,s'⟩ a' w') Q:=by
 obtain⟨hs,hd,J,N,I⟩:=id hg
 have hv:=R J N I
 unfold aKU at h
 split at h
 case h_2=>exact h.elim
 rename_i W H c y
 obtain⟨g1,g2,g3,h⟩:=h
 match us,hv with
 | [u,uy],⟨⟨ua,e1,hc⟩,hy,_⟩=>
  obtain⟨rfl,-⟩:uy=_/\_:=hy
  match Y:ua.toList,hc with
  | [uw,uh,uc],⟨hw1,hh1,M,_⟩=>
   obtain⟨rfl,-⟩:uw=_/\_:=hw1
   obtain⟨rfl,-⟩:uh=_/\_:=hh1
   have hcc:gM (Fz X w N Z.s) w J Z.s c uc:=by cases c<;>first|exact M|exact M.elim
   obtain⟨rfl,q,h1,h2⟩:=PT hF I (ul:=some (.int .i64 (y*W))) (uh:=some (.int .i64 ((y+1)*W))) hcc (show aAh _ (some (.v (.int .i64 (y*W)))) _ from⟨rfl,g1⟩) (show aAh _ (some (.v (.int .i64 ((y+1)*W)))) _ from⟨rfl,g3⟩) h
   have:=hF.win f t hf w W H y uc q g1 g2 g3 fun w0=>(h1 w0).2
   have ea:ua= #[.int .i64 W,.int .i64 H,uc]:=by apply Array.ext';rw[Y]
   rw[e1,ea]at z
   unfold Oper.wp
   rw[z]
   unfold jQ at this
   split at this
   ·rename_i u' w' D
    rw[D]
    obtain⟨e2,hb⟩:=this
    cases e2
    obtain⟨T,st⟩:=I.more hb
    exact cE.put hs hd st (T.vc h2)
   ·rename_i f' ys w' D
    rw[D]
    rw[Oper.upon_enter]
    refine Calls.mono this fun e w'' hR=> ?_
    obtain⟨rfl,hb⟩:=hR
    obtain⟨T,st⟩:=I.more hb
    exact cE.put hs hd st (T.vc h2)
   ·exact this.elim
def aKT (x:Nat×Nat×Nat) (args:List PV):eM PV:=match args with
 | [.eptr k l i j]=> .opt l[i]? fun y=>match((aG y).map qK)[j+x.1]? with
  | some (.v (.bool c))=> .ite c (.ret (.eptr k l i (j+x.2.1))) (.ret (.eptr k l i (j+x.2.2)))
  | _=> .fail
 | _=> .fail
theorem aCK (hF:fT P) {x:Nat×Nat×Nat} (hf:aLe f=some x) {args:List PV} (H:(execOp a.eval o).run P w=(callFunc f us.toArray).run P w) (hg:cE X nt Z a w)
  (M:∀J N,St X Z w a.tmps J N->bC (gM (Fz X w N Z.s) w J Z.s) args us) (h:(aKT x args).Run PC Z.s v s' r wr):o.wp P a w (fun a' w'=>cE X nt ⟨eJ o.dst v Z.t,s'⟩ a' w') Q:=by
 obtain⟨Y,hd,J,N,I⟩:=id hg
 have hv:=M J N I
 unfold aKT at h
 split at h
 case h_2=>exact h.elim
 rename_i k l i j
 obtain⟨y,hy,h⟩:=h
 match us,hv with
 | [u],⟨hu,_⟩=>
  obtain⟨b,off,h1,rfl,h3⟩:=hu
  simp only at h
  split at h
  case h_2=>exact h.elim
  rename_i c hc
  obtain⟨u0,q1,q2,-⟩:=WO (J:=J) (σ:=Z.s) h3 hy _ _ hc
  subst q2
  rw[<-fE]at q1
  have:=hF.sel f x.1 x.2.1 x.2.2 hf w b (off+i*size k+j) c q1
  have R:s'=Z.s/\v= .eptr k l i (j+if c then x.2.1 else x.2.2):=by
   rcases h with⟨rfl,h⟩ |⟨rfl,h⟩
   ·exact⟨h.2.1,h.1⟩
   ·exact⟨h.2.1,h.1⟩
  obtain⟨rfl,rfl⟩:=R
  have D:gM (Fz X w N Z.s) w J Z.s (.eptr k l i (j+if c then x.2.1 else x.2.2)) (.pointer (some ⟨b,off+i*size k+j+(if c then x.2.1 else x.2.2),none⟩)):=⟨b,off,h1,by rw[fE],h3⟩
  unfold Oper.wp
  rw[H]
  unfold jQ at this
  split at this
  ·rename_i u' w' z
   rw[z]
   obtain⟨e2,W⟩:=this
   cases e2
   obtain⟨T,st⟩:=I.more W
   exact cE.put Y hd st (T.vc D)
  ·rename_i f' ys w' z
   rw[z]
   rw[Oper.upon_enter]
   refine Calls.mono this fun e w'' hR=> ?_
   obtain⟨rfl,W⟩:=hR
   obtain⟨T,st⟩:=I.more W
   exact cE.put Y hd st (T.vc D)
  ·exact this.elim
end
open Go.RowKit
def iC (s:cU):PV->Option (PV×List Nat×List Nat)
 | .v x=>some (.v x,[],[])
 | .nil=>some (.nil,[],[])
 | .row false k l=>some (.row false k l,[],[])
 | .eptr k l i j=>some (.eptr k l i j,[],[])
 | .ref id ver off n full=>match s id with
  | ⟨v,some (.rowb k l)⟩=>if v=ver then
    if full=true then some (.row true k l,[id],[])else some (.row false k ((l.drop off).take n),[],[id])
   else none
  | ⟨v,some (.rowd k l)⟩=>if v=ver then
    if full=true then some (.drow k l,[id],[])else some (.row false k ((l.drop off).take n),[],[id])
   else none
  | _=>none
 | .ptr id ver _ j=>match s id with
  | ⟨v,some (.objb o)⟩=>if v=ver/\j=0 then some (.obj o,[id],[])else none
  | _=>none
 | .un=>some (.dead,[],[])
 | .dead=>some (.dead,[],[])
 | _=>none
def mT (s:cU):List PV->Option (List PV×List Nat×List Nat)
 | []=>some ([],[],[])
 | p::ps=>match iC s p,mT s ps with
  | some (q,a,b),some (qs,c,d)=>some (q::qs,a++c,b++d)
  | _,_=>none
def XH (s:cU):PV->Option (PV×List Nat×List Nat)
 | .agg cs=>match mT s cs with
  | some (qs,a,b)=>some (.agg qs,a,b)
  | none=>none
 | p=>iC s p
section
variable {P:Program} {PC:rU} {X:mM} {nt:Nat} {Q:Exit->Act->World->Prop} {Z:gU} {a:Act} {w:World} {o:Oper} {v:PV} {s':cU} {r wr:List Nat}
theorem tI {tm:Array Value} (h:St X Z w tm J N) (hF:∀b,Fz X w N Z.s b->S' b) (Y:e9 (Fz X w N Z.s) w J Z.s p u) (z:iC Z.s p=some (q,A,B))
  (hB:∀id∈B,∀b∈N id,S' b):(∀id∈A,∃blk,(Z.s id).blk=some blk)/\gI S' w J' σ' q u (A.map N).flatten:=by
 unfold iC at z
 split at z
 ·cases z;exact⟨by simp,rfl,Y⟩
 ·cases z;exact⟨by simp,rfl,Y⟩
 ·cases z;exact⟨by simp,rfl,rfl,Y.2.mono hF fun b o u _ hu=>hu⟩
 ·cases z
  obtain⟨b,off,h1,h2,h3⟩:=Y
  exact⟨by simp,rfl,b,off,h1,h2,h3.mono hF fun b o u _ hu=>hu⟩
 ·rename_i id ver off n full
  have hv0:oF w J Z.s id ver off n full u:=Y
  obtain⟨_,_,k3⟩:=Y
  split at z
  ·rename_i v k l M
   split at z
   ·rename_i D
    subst D
    obtain⟨e1,I⟩:=k3 _ k l M .b
    split at z
    ·rename_i hf
     cases z
     refine⟨fun i hi=>by have R:=List.mem_singleton.1 hi;subst R;exact⟨_,by rw[M]⟩,?_⟩
     have H:=h.blk id _ (by rw[M])
     show G6 S' w k u l _
     simp only[bR,iH,dE,List.flatten_nil,bO]
     rcases I with⟨I,e3⟩ |⟨b,c,o2,I,e3,e4,e5,e6⟩
     ·rcases H with⟨_,f1,f2⟩ |⟨b,cap,cur,q,_⟩
      ·exact .inl ⟨e3,f1,f2⟩
      ·rw[I]at q;cases q
     ·rcases H with⟨e,_⟩ |⟨b',cap,cur,q1,q2,q3⟩
      ·rw[I]at e;cases e
      ·rw[I]at q1;cases q1
       obtain⟨f1,f2,f3⟩:=e6 hf
       have ho2:o2=0:=by have h9:=e5 (.inr hf);rw[f1,iI]at h9;exact h9
       subst ho2
       have W:c=cap:=by
        obtain⟨fz,hh,_⟩:=q3.2.1
        have h12:=f3 cur _ fz hh
        have h7:=q3.2.2.2.2.1
        rw[h12]at h7
        exact Nat.eq_of_mul_eq_mul_right (mH _) h7
       subst W
       exact .inr ⟨b,c,cur,by rw[e4,f2],q2,q3.mono rfl hF fun _ _ _ _ h=>h⟩
    ·cases z
     exact⟨by simp,rfl,rfl,oF.view h hv0 M .b hF (hB id (by simp))⟩
   ·cases z
  ·rename_i v k l M
   split at z
   ·rename_i D
    subst D
    obtain⟨e1,I⟩:=k3 _ k l M .d
    split at z
    ·rename_i hf
     cases z
     refine⟨fun i hi=>by have R:=List.mem_singleton.1 hi;subst R;exact⟨_,by rw[M]⟩,?_⟩
     have H:=h.blk id _ (by rw[M])
     show rQ w k u l _
     simp only[bR,iH,dE,List.flatten_nil,bO]
     rcases I with⟨I,e3⟩ |⟨b,c,o2,I,e3,e4,e5,e6⟩
     ·rcases H with⟨_,f1,f2⟩ |⟨b,cap,cur,L,q,_⟩
      ·exact iO.2 (.inl ⟨e3,f1,f2⟩)
      ·rw[I]at q;cases q
     ·rcases H with⟨e,_⟩ |⟨b',cap,cur,L,q1,q2,q3⟩
      ·rw[I]at e;cases e
      ·rw[I]at q1;cases q1
       obtain⟨f1,f2,f3⟩:=e6 hf
       have ho2:o2=0:=by have h9:=e5 (.inr hf);rw[f1,iI]at h9;exact h9
       subst ho2
       have W:c=cap:=by
        obtain⟨fz,hh,_⟩:=q3.2.1
        have h12:=f3 cur _ fz hh
        have h7:=q3.2.2.2.2.1
        rw[h12]at h7
        exact Nat.eq_of_mul_eq_mul_right (mH _) h7
       subst W
       exact iO.2 (.inr ⟨b,c,cur,L,by rw[e4,f2],q2,q3⟩)
    ·cases z
     exact⟨by simp,rfl,rfl,oF.view h hv0 M .d hF (hB id (by simp))⟩
   ·cases z
  ·cases z
 ·rename_i id ver i0 j
  obtain⟨_,_,k3⟩:=Y
  split at z
  ·rename_i v o M
   split at z
   ·rename_i D
    obtain⟨rfl,rfl⟩:=D
    cases z
    obtain⟨b,off,e1,I⟩:=k3 _ M
    obtain⟨rfl,e3⟩:=I rfl
    obtain⟨b',f1,f2,f3⟩:=h.blk id _ (by rw[M])
    rw[e1]at f1;cases f1
    refine⟨fun i hi=>by have R:=List.mem_singleton.1 hi;subst R;exact⟨_,by rw[M]⟩,b,e3,?_,f3⟩
    simp only[bR,iH,dE,List.flatten_nil,bO,f2]
   ·cases z
  ·cases z
 ·cases z;exact⟨by simp,rfl,trivial⟩
 ·cases z;exact⟨by simp,rfl,trivial⟩
 ·cases z
end
open Go.RowKit
def aDW (ag:Bool) (cs:List PV) (j n:Nat):Option PV:=if j+n<=cs.length then(if ag then some (.agg ((cs.drop j).take n))else match(cs.drop j).take n with
 | [c]=>some c
 | _=>none)else none
def aJo (nt:Nat) (Z:gU):ResultVar->Option PV
 | .tmp t=>if t<nt then some (Z.t t)else none
 | .cell p t=>if p<nt then(match tyB t,Z.t p with
  | some (ag,n),.ptr id ver _ j=>match Z.s id with
   | ⟨v,some (.box cs)⟩=>if v=ver then aDW ag cs j n else none
   | _=>none
  | _,_=>none)else none
def aHW (nt:Nat) (Z:gU):List ResultVar->Option (List PV)
 | []=>some []
 | x::xs=>match aJo nt Z x,aHW nt Z xs with
  | some v,some vs=>some (v::vs)
  | _,_=>none
def aBg (qs:List PV):PV:=match qs with
 | [q]=>q
 | _=> .tup qs
def yK:List Nat->Bool
 | []=>true
 | x::xs=> !xs.contains x&&yK xs
def yJ:PV->Bool
 | .row true _ _| .ref .. | .ptr .. | .obj _| .drow .. | .gb ..=>false
 | .fn _ caps=>caps.isEmpty
 | _=>true
section
variable {P:Program} {PC:rU} {X:mM} {nt:Nat} {Q:Exit->Act->World->Prop} {Z:gU} {a:Act} {w:World} {o:Oper} {v:PV} {s':cU} {r wr:List Nat}
theorem tR:∀{l:List Nat},yK l=true->l.Nodup
 | [],_=>nT
 | x::xs,h=>by
  simp only[yK,aB,dC,List.contains_eq_mem,aY]at h
  exact List.nodup_cons.2 ⟨h.1,tR h.2⟩
theorem xE {J:Nat->Option (Nat×Nat)} {N:Nat->List Nat} {tm:Array Value} {S':Nat->Prop} {J':Nat->Option (Nat×Nat)} {σ':cU} (h:St X Z w tm J N) (z:∀b,Fz X w N Z.s b->S' b) :
  ∀{ps qs:List PV} {us:List Value} {A B:List Nat},bC (e9 (Fz X w N Z.s) w J Z.s) ps us->mT Z.s ps=some (qs,A,B)->(∀id∈B,∀b∈N id,S' b)->(∀id∈A,∃blk,(Z.s id).blk=some blk)/\bZ (gI S' w J' σ') qs us (A.map N).flatten
 | [],qs,[],A,B,_,e,_=>by cases e;exact⟨by simp,rfl⟩
 | p::ps,qs,u::us,A,B,⟨H,I⟩,e,D=>by
  unfold mT at e
  split at e
  ·rename_i q a b qs' c d M R
   cases e
   obtain⟨W,Y⟩:=tI (J':=J') (σ':=σ') h z H M (fun id hid=>D id (List.mem_append.2 (.inl hid)))
   obtain⟨k3,k4⟩:=xE (J':=J') (σ':=σ') h z I R (fun id hid=>D id (List.mem_append.2 (.inr hid)))
   refine⟨fun id hid=>(List.mem_append.1 hid).elim (W id) (k3 id),_,_,?_,Y,k4⟩
   rw[e8,List.flatten_append]
  ·cases e
 | [],_,_::_,_,_,h,_,_=>h.elim
 | _::_,_,[],_,_,h,_,_=>h.elim
theorem aAu {tm:Array Value} (h:St X Z w tm J N) (hF:∀b,Fz X w N Z.s b->S' b) (H:gM (Fz X w N Z.s) w J Z.s p u) (D:XH Z.s p=some (q,A,B))
  (hB:∀id∈B,∀b∈N id,S' b):(∀id∈A,∃blk,(Z.s id).blk=some blk)/\kN S' w J' σ' q u (A.map N).flatten:=by
 by_cases I:∃cs,p= .agg cs
 ·obtain⟨cs,rfl⟩:=I
  obtain⟨us,rfl,H⟩:=H
  unfold XH at D
  split at D
  ·rename_i cs' e
   cases e
   split at D
   ·rename_i qs a b e
    cases D
    obtain⟨M,R⟩:=xE (J':=J') (σ':=σ') h hF H e hB
    exact⟨M,us,rfl,R⟩
   ·cases D
  ·rename_i W;exact absurd rfl (W cs)
 ·have z:iC Z.s p=some (q,A,B):=by
   unfold XH at D
   split at D
   ·exact absurd ⟨_,rfl⟩ I
   ·exact D
  have Y:∀vs,p≠ .tup vs:=by rintro vs rfl;cases z
  obtain⟨M,R⟩:=tI (J':=J') (σ':=σ') h hF (H.vs (fun cs e=>I ⟨cs,e⟩) Y) z hB
  refine⟨M,?_⟩
  have hqa:∀cs,q≠ .agg cs:=by
   rintro cs rfl
   unfold iC at z
   repeat (split at z<;>try cases z)
  cases q<;>first|exact R|exact absurd rfl (hqa _)
theorem St.nodups {J:Nat->Option (Nat×Nat)} {N:Nat->List Nat} {tm:Array Value} (h:St X Z w tm J N):∀{A:List Nat},A.Nodup->(∀id∈A,∃blk,(Z.s id).blk=some blk)->(A.map N).flatten.Nodup
 | [],_,_=>by simp
 | x::xs,R,D=>by
  obtain⟨W,Y⟩:=List.nodup_cons.1 R
  obtain⟨b,M⟩:=D x (by simp)
  simp only[bR,dE,nE]
  refine⟨h.nodup x b M,h.nodups Y fun id hid=>D id (by simp[hid]),fun y hy z H e=> ?_⟩
  subst e
  obtain⟨q,hq,H⟩:=List.mem_flatten.1 H
  obtain⟨id,hid,rfl⟩:=List.mem_map.1 hq
  obtain⟨b',I⟩:=D id (by simp[hid])
  exact h.disj x id b b' M I (fun e=>W (e▸hid)) y hy H
end
open Go.RowKit
section
variable {P:Program} {PC:rU} {X:mM} {nt:Nat} {Q:Exit->Act->World->Prop} {Z:gU} {a:Act} {w:World} {o:Oper} {v:PV} {s':cU} {r wr:List Nat}
def lM (s:cU) (B:List Nat):Prop:=∀id∈B,∃blk,(s id).blk=some blk
theorem lM.nil:lM s []:=by simp[lM]
theorem lM.app (e:lM s A) (z:lM s B):lM s (A++B):=fun id hid=>(List.mem_append.1 hid).elim (e id) (z id)
theorem MW (z:iC s p=some (q,A,B)):lM s A/\lM s B:=by
 unfold iC at z
 split at z
 case h_5=>
  split at z
  ·rename_i H
   have D:lM s [_]:=fun id hid=>by have e:=List.mem_singleton.1 hid;subst e;exact⟨_,by rw[H]⟩
   split at z
   ·split at z
    ·cases z;exact⟨D,lM.nil⟩
    ·cases z;exact⟨lM.nil,D⟩
   ·cases z
  ·rename_i H
   have D:lM s [_]:=fun id hid=>by have e:=List.mem_singleton.1 hid;subst e;exact⟨_,by rw[H]⟩
   split at z
   ·split at z
    ·cases z;exact⟨D,lM.nil⟩
    ·cases z;exact⟨lM.nil,D⟩
   ·cases z
  ·cases z
 case h_6=>
  split at z
  ·rename_i H
   have D:lM s [_]:=fun id hid=>by have e:=List.mem_singleton.1 hid;subst e;exact⟨_,by rw[H]⟩
   split at z
   ·cases z;exact⟨D,lM.nil⟩
   ·cases z
  ·cases z
 all_goals first|(cases z;exact⟨lM.nil,lM.nil⟩)|cases z
theorem MU {s:cU}:∀{ps qs:List PV} {A B:List Nat},mT s ps=some (qs,A,B)->lM s A/\lM s B
 | [],_,_,_,e=>by cases e;exact⟨lM.nil,lM.nil⟩
 | p::ps,_,_,_,e=>by
  unfold mT at e
  split at e
  ·rename_i z D
   cases e
   obtain⟨H,I⟩:=MW z
   obtain⟨M,R⟩:=MU D
   exact⟨H.app M,I.app R⟩
  ·cases e
theorem aHV (hF:fT P) (z:St X Z w a.tmps J N) (Y:a.tmps.size=nt) {x:ResultVar} {v:PV} (h:aJo nt Z x=some v) :
  ∃u,((match x with| .tmp t=>pure (a.tmps.getD t undef)| .cell p t=>do loadVar t (<-asAddr (a.tmps.getD p undef)):Sem Value)).run P w= .ok u w/\gM (Fz X w N Z.s) w J Z.s v u:=by
 cases x with
 | tmp t=>
  simp only[aJo]at h
  split at h
  ·rename_i D
   cases h
   have e:t<a.tmps.size:=by rw[Y];exact D
   exact⟨a.tmps[t],by simp[Array.getD,e,Sem.run_pure],z.tmp t _ (by simp[e])⟩
  ·cases h
 | cell p t=>
  simp only[aJo]at h
  split at h
  case isFalse=>cases h
  rename_i D
  have e:p<a.tmps.size:=by rw[Y];exact D
  have hv:=z.tmp p a.tmps[p] (by simp[e])
  split at h
  case h_2=>cases h
  rename_i ag n id ver i j ht he
  rw[he]at hv
  obtain⟨_,_,k3⟩:=hv
  split at h
  case h_2=>cases h
  rename_i v2 cs hid
  split at h
  case isFalse=>cases h
  rename_i H
  subst H
  obtain⟨b,off,hβ,hp⟩:=k3 _ hid
  obtain⟨b',off',hβ',hc⟩:=GH (z.blk id _ (by rw[hid]))
  rw[hβ]at hβ';cases hβ'
  have hr:(uG ag cs j n).Run (fun _ _ _ _ _=>False) Z.s v Z.s [] []:=by
   unfold aDW at h
   unfold uG aEo
   split at h
   ·rename_i I
    rw[if_pos I]
    cases ag with
    | true=>cases h;exact⟨rfl,rfl,rfl,rfl⟩
    | false=>
     simp only[aJ,if_false]at h⊢
     split at h
     ·rename_i c R;cases h;try rw[R]
      exact⟨rfl,rfl,rfl,rfl⟩
     ·cases h
   ·cases h
  obtain⟨_,u,M,W⟩:=pI hF ht hr hc
  refine⟨u,?_,W⟩
  have:a.tmps.getD p undef= .pointer (some ⟨b,off+j,none⟩):=by simp[Array.getD,e];exact hp
  simp only[this,asAddr,Sem.run_bind,Sem.run_pure,Result.andThen_ok,M]
def aFD (tmps:Array Value):ResultVar->Sem Value
 | .tmp t=>pure (tmps.getD t undef)
 | .cell p t=>do loadVar t (<-asAddr (tmps.getD p undef))
theorem aBE (I:fT P) {J:Nat->Option (Nat×Nat)} {N:Nat->List Nat} (e:St X Z w a.tmps J N) (M:a.tmps.size=nt):∀{rs:List ResultVar} {vs:List PV},aHW nt Z rs=some vs->
  ∃us:List Value,(rs.mapM (aFD a.tmps)).run P w=Result.ok us w/\bC (gM (Fz X w N Z.s) w J Z.s) vs us
 | [],_,h=>by cases h;exact⟨[],by simp[Sem.run_pure],trivial⟩
 | x::xs,_,h=>by
  unfold aHW at h
  split at h
  ·rename_i v vs R W
   cases h
   obtain⟨u,Y,hv⟩:=aHV I e M R
   obtain⟨us,D,z⟩:=aBE I e M W
   refine⟨u::us,?_,hv,z⟩
   have H:(aFD a.tmps x).run P w= .ok u w:=by cases x<;>exact Y
   rw[List.mapM_cons]
   simp only[Sem.run_bind,H,Result.andThen_ok,D,Sem.run_pure]
  ·cases h
def Y8 (us:List Value):Value:=match us with
 | [u]=>u
 | _=> .tuple us.toArray
theorem aBF {fn:Func} (h:(fn.results.toList.mapM (aFD a.tmps)).run P w=Result.ok us w):(results fn a.tmps).run P w=Result.ok (Y8 us) w:=by
 have e:results fn a.tmps=(do let vs <-fn.results.mapM (aFD a.tmps);pure (if h:vs.size=1 then vs[0]else .tuple vs)):=by
  unfold results
  congr 1
 rw[e]
 have z:fn.results.mapM (aFD a.tmps)=List.toArray <$> fn.results.toList.mapM (aFD a.tmps):=by
  rw[<-List.mapM_toArray]
 rw[z]
 simp only[Sem.run_bind,map_eq_pure_bind,h,Result.andThen_ok,Sem.run_pure]
 match us with
 | []=>rfl
 | [u]=>rfl
 | u::D::us=>simp[Y8]
end
open Go.RowKit
inductive wkD:PV->PV->Prop
 | nil (k:K):wkD .nil (.drow k [])
 | row (k:K) (l:List (ty k)):wkD (.drow k l) (.row false k l)
 | own (k:K) (l:List (ty k)):wkD (.drow k l) (.row true k l)
 | flat (k:K) (l:List (ty k)) (h:flat k=true):wkD (.row true k l) (.drow k l)
def W4 (p q:PV):Prop:=p=q∨(p= .nil/\∃o k,q= .row o k [])∨(∃k l,p= .row true k l/\q= .row false k l)∨(∃x lf,p= .v x/\q=qK lf/\(sD x->lf= .sc x))∨wkD p q
def OT (p q:PV):Prop:=W4 p q∨∃cs ds,p= .agg cs/\q= .agg ds/\bC W4 cs ds
def Wk (w:World) (S1:Nat->Prop) (u:Value) (L:List Nat) (R:(Nat->Prop)->List Nat->Prop):Prop:=
 ∃L':List Nat,L'.Sublist L/\∀S2:Nat->Prop,(∀b,S1 b->S2 b)->(∀b∈L,b∉L'->S2 b)->R S2 L'
section
variable {w:World} {J:Nat->Option (Nat×Nat)} {σ:cU}
theorem gI.up (h:gI S1 w J σ p u L) (z:∀b,S1 b->S2 b):gI S2 w J σ p u L:=by
 have T:Tr S1 S2 w w J J σ σ:=⟨fun h=>h.mono z fun _ _ _ _ h=>h,fun h=>h,fun h=>h⟩
 cases p with
 | row own k l=>cases own with
  | true=>exact G6.mono h (fun _ _=>rfl) z fun _ _ _ _ h=>h
  | false=>exact⟨h.1,T.vs h.2⟩
 | v x=>exact⟨h.1,T.vs (p:= .v x) h.2⟩
 | nil=>exact⟨h.1,T.vs (p:= .nil) h.2⟩
 | ref a b c d e=>exact⟨h.1,T.vs (p:= .ref a b c d e) h.2⟩
 | ptr a b c d=>exact⟨h.1,T.vs (p:= .ptr a b c d) h.2⟩
 | eptr k l i j=>exact⟨h.1,T.vs (p:= .eptr k l i j) h.2⟩
 | agg cs=>exact⟨h.1,T.vs (p:= .agg cs) h.2⟩
 | tup cs=>exact⟨h.1,T.vs (p:= .tup cs) h.2⟩
 | fn f caps=>exact⟨h.1,T.vs (p:= .fn f caps) h.2⟩
 | un=>exact⟨h.1,T.vs (p:= .un) h.2⟩
 | obj o=>exact h
 | drow k l=>exact h
 | gb r b=>exact⟨h.1,T.vs (p:= .gb r b) h.2⟩
 | dead=>exact⟨h.1,trivial⟩
theorem G6.deep (hk:Go.Px.flat k=true) {l:List (ty k)} (h:G6 S w k u l L):rQ w k u l L:=by
 rcases h with⟨D,H,R⟩ |⟨g,cap,cur,D,H,R,h4,h5,h6,h7,h8⟩
 ·exact iO.2 (.inl ⟨D,H,R⟩)
 ·refine iO.2 (.inr ⟨g,cap,cur,[],D,H,R,h4,h5,h6,h7,?_⟩)
  have W:l.length*size k<=cur.size:=by rw[h7];exact bF _ h5
  have key:∀(as:List d4) (bs:List Value),as.length=bs.length->(∀(i:Nat) lf u,as[i]?=some lf->bs[i]?=some u->∃q,lf= .sc q/\u=q/\sD q)->bZ (iE w) as bs []:=by
   intro as
   induction as with
   | nil=>intro bs M _;cases bs with
    | nil=>rfl
    | cons _ _=>simp at M
   | cons a as ih=>intro bs M h;cases bs with
    | nil=>simp at M
    | cons b bs=>
     obtain⟨q,rfl,rfl,hw⟩:=h 0 a b rfl rfl
     exact⟨[],[],rfl,⟨⟨rfl,hw⟩,rfl⟩,ih bs (by simpa using M) fun i lf u D H=>h (i+1) lf u (by simpa using D) (by simpa using H)⟩
  refine key _ _ (by rw[yW,aF];exact(fQ (by rw[d5];exact W)).symm) fun m lf v hm hv=> ?_
  have I:m<l.length*size k:=by have:=(iR.1 hm).1;rwa[yW]at this
  have hp:=mH k
  have hi:m / size k<l.length:=(Nat.div_lt_iff_lt_mul hp).2 I
  have hx:l[m / size k]?=some l[m / size k]:=iD hi
  have e:=DZ hx (Nat.mod_lt m hp)
  rw[Nat.div_add_mod',hm]at e
  obtain⟨u',z,Y⟩:=h8 _ _ hx _ lf e.symm
  simp only at z
  rw[Nat.div_add_mod']at z
  obtain⟨q,rfl⟩:=X4 hk _ lf (tF e.symm)
  rw[aU,if_pos I]at hv
  have:v=u':=by
   have h9:cur[m]?=some v:=by simpa using hv
   rw[z]at h9;exact(Option.some.inj h9).symm
  subst this
  exact⟨q,rfl,Y⟩
theorem aJ5 (Y:L.Nodup) (h:wkD p q) (D:gI S1 w J σ p u L):Wk w S1 u L fun S L=>gI S w J σ q u L:=by
 cases h with
 | nil k=>
  obtain⟨rfl,e⟩:=D
  have e:u= .slice none 0 0:=e
  exact⟨[],List.Sublist.refl _,fun S2 W _=>iO.2 (.inl ⟨e,rfl,rfl⟩)⟩
 | row k l=>exact⟨[],j5 _,fun S2 W H=>⟨rfl,rfl,rQ.row _ (cM _) D fun b z=>H b z (by simp)⟩⟩
 | own k l=>
  rcases iO.1 D with⟨I,M,R⟩ |⟨g,cap,cur,L',I,M,R⟩
  ·subst R
   exact⟨[],List.Sublist.refl _,fun S2 _ _=> .inl ⟨I,M,rfl⟩⟩
  ·subst M
   refine⟨[g],List.Sublist.cons_cons _ (j5 _),fun S2 W H=> .inr ⟨g,cap,cur,I,rfl,R.cont fun b z=>H b (by simp[z]) ?_⟩⟩
   intro h
   rw[List.mem_singleton.1 h]at z
   exact(List.nodup_cons.1 Y).1 z
 | flat k l hk=>exact⟨L,List.Sublist.refl _,fun S2 _ _=>G6.deep hk D⟩
theorem aAc (R:L.Nodup) (h:W4 p q) (z:gI S1 w J σ p u L):Wk w S1 u L fun S L=>gI S w J σ q u L:=by
 rcases h with rfl|⟨rfl,o,k,rfl⟩ |⟨k,l,rfl,rfl⟩ |⟨x,lf,rfl,rfl,H⟩ | hd
 ·exact⟨L,List.Sublist.refl _,fun S2 D _=>z.up D⟩
 ·obtain⟨rfl,e⟩:=z
  have e:u= .slice none 0 0:=e
  subst e
  refine⟨[],List.Sublist.refl _,fun S2 D _=> ?_⟩
  cases o with
  | true=>exact .inl ⟨rfl,rfl,rfl⟩
  | false=>exact⟨rfl,rfl,wY.nil⟩
 ·exact⟨[],j5 _,fun S2 D I=>⟨rfl,rfl,G6.row z D fun b W=>I b W (by simp)⟩⟩
 ·obtain⟨rfl,e,M⟩:=z
  rw[H M]
  exact⟨[],j5 _,fun S2 D I=>⟨rfl,e,M⟩⟩
 ·exact aJ5 R hd z
theorem bZ.wk {wk:PV->PV->Prop} {R:(Nat->Prop)->PV->Value->List Nat->Prop} {S1:Nat->Prop} (D:∀p q u L,L.Nodup->wk p q->R S1 p u L->Wk w S1 u L fun S L=>R S q u L):∀{ps qs:List PV} {us:List Value} {L:List Nat},L.Nodup->bC wk ps qs->bZ (R S1) ps us L->Wk w S1 undef L fun S L=>bZ (R S) qs us L
 | [],[],[],L,_,_,h=>⟨[],j5 _,fun _ _ _=>rfl⟩
 | p::ps,q::qs,u::us,L,Y,⟨h1,h2⟩,⟨L1,L2,e,h3,h4⟩=>by
  subst e
  obtain⟨n1,n2,I⟩:=List.nodup_append.1 Y
  obtain⟨L1',s1,k1⟩:=D _ _ _ _ n1 h1 h3
  obtain⟨L2',s2,k2⟩:=bZ.wk D n2 h2 h4
  refine⟨L1'++L2',s1.append s2,fun S2 M W=>⟨L1',L2',rfl,k1 S2 M fun b H z=>W b (by simp[H]) ?_,k2 S2 M fun b H z=>W b (by simp[H]) ?_⟩⟩
  ·intro hm
   rcases List.mem_append.1 hm with hm|hm
   ·exact z hm
   ·exact I b H b (s2.mem hm) rfl
  ·intro hm
   rcases List.mem_append.1 hm with hm|hm
   ·exact I b (s1.mem hm) b H rfl
   ·exact z hm
 | [],_::_,_,_,_,h,_=>h.elim
 | _::_,[],_,_,_,h,_=>h.elim
 | [],[],_::_,_,_,_,h=>h.elim
 | _::_,_::_,[],_,_,_,h=>h.elim
theorem aB6 (h:W4 p q):(kN S w J σ p u L->p=q∨gI S w J σ p u L)/\(gI S w J σ q u L->p=q∨kN S w J σ q u L):=by
 rcases h with rfl|⟨rfl,o,k,rfl⟩ |⟨k,l,rfl,rfl⟩ |⟨x,lf,rfl,rfl,e⟩ | hd
 ·exact⟨fun _=> .inl rfl,fun _=> .inl rfl⟩
 ·exact⟨fun h=> .inr h,fun h=> .inr h⟩
 ·exact⟨fun h=> .inr h,fun h=> .inr h⟩
 ·exact⟨fun h=> .inr h,fun h=> .inr (by cases lf<;>exact h)⟩
 ·exact⟨fun h=> .inr (by cases hd<;>exact h),fun h=> .inr (by cases hd<;>exact h)⟩
theorem kN.up {S1 S2:Nat->Prop} {p:PV} {u:Value} {L:List Nat} (h:kN S1 w J σ p u L) (D:∀b,S1 b->S2 b):kN S2 w J σ p u L:=by
 by_cases z:∃cs,p= .agg cs
 ·obtain⟨cs,rfl⟩:=z
  obtain⟨us,e,h⟩:=h
  exact⟨us,e,bZ.mono (fun a b L' _ h=>gI.up h D) h⟩
 ·have H:gI S1 w J σ p u L:=by cases p<;>first|exact h|exact absurd ⟨_,rfl⟩ z
  have:=gI.up H D
  cases p<;>first|exact this|exact absurd ⟨_,rfl⟩ z
theorem aEI (D:L.Nodup) (h:OT p q) (e:kN S1 w J σ p u L):Wk w S1 u L fun S L=>kN S w J σ q u L:=by
 rcases h with h|⟨cs,ds,rfl,rfl,h⟩
 ·rcases(aB6 (w:=w) (J:=J) (σ:=σ) h).1 e with rfl|ho'
  ·exact⟨L,List.Sublist.refl _,fun S2 z _=>e.up z⟩
  ·obtain⟨L',s,k⟩:=aAc D h ho'
   refine⟨L',s,fun S2 z H=> ?_⟩
   rcases(aB6 (w:=w) (J:=J) (σ:=σ) h).2 (k S2 z H)with rfl|h2
   ·have I:=k S2 z H
    by_cases M:∃cs,p= .agg cs
    ·obtain⟨cs,rfl⟩:=M
     exact I.2.elim
    ·cases p<;>first|exact I|exact absurd ⟨_,rfl⟩ M
   ·exact h2
 ·obtain⟨us,rfl,e⟩:=e
  obtain⟨L',s,k⟩:=bZ.wk (R:=fun S p u L=>gI S w J σ p u L) (fun p q u L D h e=>aAc D h e) D h e
  exact⟨L',s,fun S2 z H=>⟨us,rfl,k S2 z H⟩⟩
theorem DL.up {S1 S2:Nat->Prop} {p:PV} {u:Value} {L:List Nat} (h:DL S1 w J σ p u L) (D:∀b,S1 b->S2 b):DL S2 w J σ p u L:=by
 by_cases z:∃cs,p= .tup cs
 ·obtain⟨cs,rfl⟩:=z
  obtain⟨us,e,h⟩:=h
  exact⟨us,e,bZ.mono (fun a b L' _ h=>kN.up h D) h⟩
 ·have H:kN S1 w J σ p u L:=by cases p<;>first|exact h|exact absurd ⟨_,rfl⟩ z
  have:=kN.up H D
  cases p<;>first|exact this|exact absurd ⟨_,rfl⟩ z
end
theorem jQ.mono {P:Program} {f:FuncId} {xs:Array Value} {w:World} {R R':Ending->World->Prop} (h:jQ P f xs w R) (z:∀e w',R e w'->R' e w'):jQ P f xs w R':=by
 unfold jQ at h⊢
 split at h
 ·exact z _ _ h
 ·exact Calls.mono h z
 ·exact h.elim
open Go.RowKit
section
variable {P:Program} {PC:rU} {X:mM} {nt:Nat} {Q:Exit->Act->World->Prop} {Z:gU} {a:Act} {w:World} {o:Oper} {v:PV} {s':cU} {r wr:List Nat}
theorem D8 {w:World} (e:yJ p=true) (h:gI S w J σ p u L) (H:∀b,S b->S' b):L=[]/\e9 S' w J' σ' p u:=by
 cases p with
 | row own k l=>
  cases own with
  | true=>cases e
  | false=>obtain⟨rfl,_,h⟩:=h;exact⟨rfl,rfl,h.mono H fun _ _ _ _ h=>h⟩
 | v x=>exact h
 | nil=>exact h
 | ref=>cases e
 | ptr=>cases e
 | eptr k l i j=>obtain⟨rfl,b,off,D,z,I⟩:=h;exact⟨rfl,b,off,D,z,I.mono H fun _ _ _ _ h=>h⟩
 | agg cs=>exact⟨h.1,h.2⟩
 | tup vs=>exact⟨h.1,h.2⟩
 | fn f caps=>
  obtain⟨rfl,us,D,z⟩:=h
  have:caps=[]:=by cases caps<;>simp_all[yJ]
  subst this
  refine⟨rfl,us,D,?_⟩
  cases M:us.toList with
  | nil=>trivial
  | cons x xs=>rw[M]at z;exact z.elim
 | un=>exact h
 | obj o=>cases e
 | drow=>cases e
 | gb=>cases e
 | dead=>exact h
theorem WZ {w:World} (h:GA S w J σ p u):gM S w J σ p u:=by
 cases p<;>first|exact h|exact h.elim
end
open Go.RowKit
section
variable {P:Program} {PC:rU} {X:mM} {nt:Nat} {Q:Exit->Act->World->Prop} {Z:gU} {a:Act} {w:World} {o:Oper} {v:PV} {s':cU} {r wr:List Nat}
theorem lN.open0 {tm:Array Value} (h:lN X S Z w tm J N) {id:Nat} (h99:99<=id) (M:(Z.s id).ver<ver) (blk:oE) (p:Option (Nat×Nat)) (L:List Nat) (Y:∀J' σ',J' id=p->yE S w J' σ' L id blk) (hlt:∀x∈L,x<w.heap.size) (hnd:L.Nodup)
  (hS:∀x∈L,¬S x) (hnew:∀x∈L,x∈X.F∨X.w0.heap.size<=x) (hdj:∀id b,(Z.s id).blk=some b->∀x∈L,x∉N id) :
  lN X S ⟨Z.t,eN Z.s id ⟨ver,some blk⟩⟩ w tm (eN J id p) (eN N id L)/\Tr S S w w J (eN J id p) Z.s (eN Z.s id ⟨ver,some blk⟩):=by
 have hid:∀p,X.ext[id]?≠some p:=fun p e=>by
  have:=(iR.1 e).1
  have:=X.few
  omega
 have T:Tr S S w w J (eN J id p) Z.s (eN Z.s id ⟨ver,some blk⟩):=by
  refine⟨fun h=>h,fun{i v o n f u} R=> ?_,fun{i v i' j' u} R=> ?_⟩
  ·obtain⟨k1,k2,k3⟩:=R
   by_cases z:i=id
   ·subst z
    refine⟨by rw[aD];exact oC (iW k1 M),k2,fun blk k l e R=> ?_⟩
    rw[aD]at e;cases e;omega
   ·refine⟨by rw[bU _ _ z];exact k1,k2,fun blk k l e R=> ?_⟩
    rw[bU _ _ z]at e
    rw[bU _ _ z]
    exact k3 _ k l e R
  ·obtain⟨k1,k2,k3⟩:=R
   by_cases z:i=id
   ·subst z
    refine⟨by rw[aD];exact oC (iW k1 M),k2,fun blk e=> ?_⟩
    rw[aD]at e;cases e;omega
   ·refine⟨by rw[bU _ _ z];exact k1,k2,fun blk e=> ?_⟩
    rw[bU _ _ z]at e
    rw[bU _ _ z]
    exact k3 blk e
 refine⟨⟨fun t u hu=>T.vc (h.tmp t u hu),fun i b D=> ?_,fun i b D=> ?_,fun i b D=> ?_,fun i i' b b' D I hne=> ?_,fun i b D=> ?_,fun j q hj=> ?_,fun q u n hq=> ?_,h.frm,h.env,fun b D=> ?_⟩,T⟩
 ·by_cases z:i=id
  ·subst z
   simp only[aD]at D
   cases D
   rw[aD]
   exact Y _ _ (aD _ _ _)
  ·simp only[bU _ _ z]at D
   rw[bU _ _ z]
   exact T.blk (bU _ _ z) (fun _ _=>rfl) (h.blk i b D)
 ·by_cases z:i=id
  ·subst z;rw[aD];exact hlt
  ·simp only[bU _ _ z]at D;rw[bU _ _ z];exact h.lt i b D
 ·by_cases z:i=id
  ·subst z;rw[aD];exact hnd
  ·simp only[bU _ _ z]at D;rw[bU _ _ z];exact h.nodup i b D
 ·by_cases z:i=id
  ·subst z
   have H:i'≠i:=fun e=>hne e.symm
   simp only[bU _ _ H]at I
   rw[aD,bU _ _ H]
   exact hdj i' b' I
  ·by_cases H:i'=id
   ·subst H
    simp only[bU _ _ z]at D
    rw[aD,bU _ _ z]
    exact fun x hx hx'=>hdj i b D x hx' hx
   ·simp only[bU _ _ z]at D
    simp only[bU _ _ H]at I
    rw[bU _ _ z,bU _ _ H]
    exact h.disj i i' b b' D I hne
 ·by_cases z:i=id
  ·subst z;rw[aD];exact hnew
  ·simp only[bU _ _ z]at D;rw[bU _ _ z];exact h.new i b D
 ·have z:j≠id:=fun e=>hid q (e▸hj)
  simp only[bU _ _ z]
  exact h.ext j q hj
 ·obtain⟨h1,b0,k0,l0,h2,h3,W,h5⟩:=h.rxt q u n hq
  exact⟨h1,b0,k0,l0,by show eN Z.s id _ (50+q)=_;rw[bU _ _ (show 50+q≠id by omega)];exact h2,h3,W,T.ref h5⟩
 ·obtain⟨h1,h2,h2'⟩:=h.fz b D
  refine⟨h1,?_,h2'⟩
  rintro⟨i,blk,h3,W⟩
  by_cases z:i=id
  ·subst z;rw[aD]at W;exact hS b W D
  ·simp only[bU _ _ z]at h3;rw[bU _ _ z]at W;exact h2 ⟨i,blk,h3,W⟩
theorem KM {id:Nat} {blk:oE} {l:List (ty k)} (R:σ id=⟨ver,some blk⟩) (W:kR blk k l) (h:(J id=none/\l=[]/\u= .slice none 0 0)∨∃b cap cur,J id=some (b,0)/\u= .slice (some ⟨b,0,none⟩) l.length cap/\gY w b cur (mJ k)/\l.length<=cap/\cur.size=cap*size k) :
  oF w J σ id ver 0 l.length true u:=by
 refine⟨by rw[R];exact bB _,?_,fun blk2 k2 l2 e M=> ?_⟩
 ·rcases h with⟨D,H,z⟩ |⟨b,cap,cur,D,H,z⟩
  ·exact⟨_,_,_,z⟩
  ·exact⟨_,_,_,H⟩
 ·rw[R]at e
  cases e
  cases W.same M
  refine⟨by omega,?_⟩
  rcases h with⟨D,H,z⟩ |⟨b,cap,cur,D,H,z,Y,h6⟩
  ·exact .inl ⟨D,z⟩
  ·refine .inr ⟨b,cap,0,D,Y,H,fun _=>by rw[iI],fun _=>⟨rfl,rfl,fun c2 E2 fz2 I=> ?_⟩⟩
   obtain⟨fz,hh,_⟩:=z
   rw[hh]at I
   cases I
   exact h6
theorem lN.open {tm:Array Value} (h:lN X S Z w tm J N) {id:Nat} (R:99<=id) (I:(Z.s id).ver<ver) {l:List (ty k)} (W:G6 S w k u l L)
  (hS:∀x∈L,¬S x) (M:∀x∈L,x∈X.F∨X.w0.heap.size<=x) (Y:∀id b,(Z.s id).blk=some b->∀x∈L,x∉N id) :
  ∃p,lN X S ⟨Z.t,eN Z.s id ⟨ver,some (.rowb k l)⟩⟩ w tm (eN J id p) (eN N id L)/\Tr S S w w J (eN J id p) Z.s (eN Z.s id ⟨ver,some (.rowb k l)⟩)/\e9 S w (eN J id p) (eN Z.s id ⟨ver,some (.rowb k l)⟩) (.ref id ver 0 l.length true) u:=by
 obtain⟨p,hp⟩:∃p:Option (Nat×Nat),(p=none/\l=[]/\L=[]/\u= .slice none 0 0)∨∃b cap cur,p=some (b,0)/\u= .slice (some ⟨b,0,none⟩) l.length cap/\L=[b]/\C4 S w b l cap cur:=by
  rcases W with⟨e,z,D⟩ |⟨g,cap,cur,e,z,D⟩
  ·exact⟨none,.inl ⟨rfl,z,D,e⟩⟩
  ·exact⟨some (g,0),.inr ⟨g,cap,cur,rfl,e,z,D⟩⟩
 obtain⟨st,T⟩:=lN.open0 h R I (.rowb k l) p L (fun J' σ' hβ=>by
  rcases hp with⟨e,z,D,H⟩ |⟨b,cap,cur,e,z,D,H⟩
  ·exact .inl ⟨hβ.trans e,z,D⟩
  ·exact .inr ⟨b,cap,cur,hβ.trans e,D,H⟩) W.lt W.nodup hS M Y
 refine⟨p,st,T,KM (aD _ _ _) .b ?_⟩
 rw[aD]
 rcases hp with⟨e,z,D,H⟩ |⟨b,cap,cur,e,z,D,H⟩
 ·exact .inl ⟨e,z,H⟩
 ·exact .inr ⟨b,cap,cur,e,z,H.2.1,H.2.2.1,H.2.2.2.2.1⟩
theorem lN.openD {tm:Array Value} (h:lN X S Z w tm J N) {id:Nat} (R:99<=id) (I:(Z.s id).ver<ver) {l:List (ty k)} (ho:rQ w k u l L) (W:∀x∈L,x<w.heap.size) (Y:L.Nodup)
  (hS:∀x∈L,¬S x) (M:∀x∈L,x∈X.F∨X.w0.heap.size<=x) (hdj:∀id b,(Z.s id).blk=some b->∀x∈L,x∉N id) :
  ∃p,lN X S ⟨Z.t,eN Z.s id ⟨ver,some (.rowd k l)⟩⟩ w tm (eN J id p) (eN N id L)/\Tr S S w w J (eN J id p) Z.s (eN Z.s id ⟨ver,some (.rowd k l)⟩)/\e9 S w (eN J id p) (eN Z.s id ⟨ver,some (.rowd k l)⟩) (.ref id ver 0 l.length true) u:=by
 obtain⟨p,hp⟩:∃p:Option (Nat×Nat),(p=none/\l=[]/\L=[]/\u= .slice none 0 0)∨∃b cap cur L',p=some (b,0)/\u= .slice (some ⟨b,0,none⟩) l.length cap/\L=b::L'/\DAt w b l cap cur L':=by
  rcases iO.1 ho with⟨e,z,D⟩ |⟨g,cap,cur,L',e,z,D⟩
  ·exact⟨none,.inl ⟨rfl,z,D,e⟩⟩
  ·exact⟨some (g,0),.inr ⟨g,cap,cur,L',rfl,e,z,D⟩⟩
 obtain⟨st,T⟩:=lN.open0 h R I (.rowd k l) p L (fun J' σ' hβ=>by
  rcases hp with⟨e,z,D,H⟩ |⟨b,cap,cur,L',e,z,D,H⟩
  ·exact .inl ⟨hβ.trans e,z,D⟩
  ·exact .inr ⟨b,cap,cur,L',hβ.trans e,D,H⟩) W Y hS M hdj
 refine⟨p,st,T,KM (aD _ _ _) .d ?_⟩
 rw[aD]
 rcases hp with⟨e,z,D,H⟩ |⟨b,cap,cur,L',e,z,D,H⟩
 ·exact .inl ⟨e,z,H⟩
 ·exact .inr ⟨b,cap,cur,e,z,H.2.1,H.2.2.1,H.2.2.2.2.1⟩
theorem lN.openO {tm:Array Value} (h:lN X S Z w tm J N) {id:Nat} (R:99<=id) (D:(Z.s id).ver<ver) {o:Obj} {z:Nat} (H:u=QW o z) (I:w.heap[z]?=some o)
  (Y:∀x∈[z],¬S x) (M:∀x∈[z],x∈X.F∨X.w0.heap.size<=x) (W:∀id b,(Z.s id).blk=some b->∀x∈[z],x∉N id) :
  lN X S ⟨Z.t,eN Z.s id ⟨ver,some (.objb o)⟩⟩ w tm (eN J id (some (z,0))) (eN N id [z])/\Tr S S w w J (eN J id (some (z,0))) Z.s (eN Z.s id ⟨ver,some (.objb o)⟩)/\e9 S w (eN J id (some (z,0))) (eN Z.s id ⟨ver,some (.objb o)⟩) (.ptr id ver 0 0) u:=by
 obtain⟨st,T⟩:=lN.open0 h R D (.objb o) (some (z,0)) [z] (fun J' σ' hβ=>⟨z,hβ,rfl,I⟩) (fun x hx=>by have e:=List.mem_singleton.1 hx;subst e;exact(Array.getElem?_eq_some_iff.1 I).1) (by simp) Y M W
 refine⟨st,T,by rw[aD];exact bB _,?_,fun blk e=> ?_⟩
 ·subst H
  cases o<;>first|exact .inl ⟨_,rfl⟩ | exact .inr ⟨_,rfl⟩
 ·rw[aD]at e
  cases e
  exact⟨z,0,by rw[aD],fun _=>⟨rfl,H⟩⟩
theorem lN.wide {tm:Array Value} (h:lN X S Z w tm J N) (e:∀b,S b->S' b) (z:∀b,S' b->Fz X w N Z.s b):lN X S' Z w tm J N/\Tr S S' w w J J Z.s Z.s:=by
 have T:Tr S S' w w J J Z.s Z.s:=⟨fun h=>h.mono e fun _ _ _ _ h=>h,fun h=>h,fun h=>h⟩
 exact⟨⟨fun t u D=>T.vc (h.tmp t u D),fun i b H=>T.blk rfl (fun _ _=>rfl) (h.blk i b H),h.lt,h.nodup,h.disj,h.new,h.ext,fun q u n I=>by obtain⟨M,R,W,Y,h2,h3,h4,h5⟩:=h.rxt q u n I;exact⟨M,R,W,Y,h2,h3,h4,T.ref h5⟩,h.frm,h.env,z⟩,T⟩
theorem lN.after {tm:Array Value} (h:lN X S Z w tm J N) (ho:w'.os=w.os) (ht:w'.tape=w.tape) (M:w'.output=w.output) (W:w.heap.size<=w'.heap.size) (z:∀b,b<w.heap.size->w'.heap[b]?=w.heap[b]?) :
  lN X S Z w' tm J N/\Tr S S w w' J J Z.s Z.s:=by
 have T:Tr S S w w' J J Z.s Z.s:=by
  refine⟨fun H=>H.mono (fun _ h=>h) fun b o u D M=>VP (z b (h.fz b D).1) M,fun{id ver off n full u} H=> ?_,fun h=>h⟩
  obtain⟨k1,k2,k3⟩:=H
  refine⟨k1,k2,fun blk k l e H=> ?_⟩
  obtain⟨e1,I⟩:=k3 _ k l e H
  refine⟨e1,?_⟩
  rcases I with I|⟨b,c,o,I,e3,e4,e5,e6⟩
  ·exact .inl I
  ·refine .inr ⟨b,c,o,I,e3,e4,e5,fun hf=> ?_⟩
   obtain⟨f1,f2,f3⟩:=e6 hf
   refine⟨f1,f2,fun cur E fz hh=>f3 cur E fz ?_⟩
   have R:=h.blk id _ (by rw[e])
   have D:b∈N id:=aMB H R I
   rw[<-z b (h.lt id _ (by rw[e]) b D)];exact hh
 refine⟨⟨fun t u M=>T.vc (h.tmp t u M),fun i b D=>T.blk rfl (fun x Y=>z x (h.lt i b D x Y)) (h.blk i b D),fun i b D x Y=>eQ (h.lt i b D x Y) W,h.nodup,h.disj,h.new,h.ext,fun q u n hq=>by obtain⟨h1,b0,k0,l0,h2,h3,h4,h5⟩:=h.rxt q u n hq;exact⟨h1,b0,k0,l0,h2,h3,h4,T.ref h5⟩,h.frm.grow ho ht M W z,?_,fun b D=> ?_⟩,T⟩
 ·exact X.cl w w' h.env fun b D=>z b (by have:=X.hw;have:=h.frm.size;omega)
 ·obtain⟨h1,h2⟩:=h.fz b D
  exact⟨eQ h1 W,h2⟩
end
open Go.RowKit
def D7 (id:Nat):PV->eM PV
 | .row true k l=>pG id (.rowb k l) fun ver=> .ret (.ref id ver 0 l.length true)
 | .drow k l=>pG (id+1000000000) (.rowd k l) fun ver=> .ret (.ref (id+1000000000) ver 0 l.length true)
 | .obj o=>pG id (.objb o) fun ver=> .ret (.ptr id ver 0 0)
 | .v x=> .ret (.v x)
 | .nil=> .ret .nil
 | .row false k l=> .ret (.row false k l)
 | .eptr k l i j=> .ret (.eptr k l i j)
 | .fn f []=> .ret (.fn f [])
 | .dead=> .ret .dead
 | _=> .fail
def RY (id:Nat):List PV->eM (List PV)
 | []=> .ret []
 | p::ps=>(D7 id p).bind fun q=>(RY (id+1) ps).bind fun qs=> .ret (q::qs)
def aBh (id:Nat):PV->eM PV
 | .agg cs=>(RY id cs).bind fun qs=> .ret (.agg qs)
 | p=>D7 id p
def aDl (id:Nat):List PV->eM (List PV)
 | []=> .ret []
 | p::ps=>(aBh id p).bind fun q=>(aDl (id+1000) ps).bind fun qs=> .ret (q::qs)
def aEs (id:Nat):PV->eM PV
 | .tup vs=>(aDl id vs).bind fun qs=> .ret (.tup qs)
 | p=>aBh id p
def V4:PV->Bool
 | .row false _ _=>true| .row true k _=> !flat k| .eptr ..=>true| .fn _ cs=> !cs.isEmpty|_=>false
def fz1:PV->Bool
 | .agg cs=>cs.any V4
 | p=>V4 p
def fzR:PV->Bool
 | .tup vs=>vs.any fz1
 | p=>fz1 p
def NG (o:Oper):Nat:=match o.dst with
 | some d=>1000000*(d+1)
 | none=>1000000
open Go.RowKit
section
variable {P:Program} {PC:rU} {X:mM} {nt:Nat} {Q:Exit->Act->World->Prop} {Z:gU} {a:Act} {w:World} {o:Oper} {v:PV} {t:Nat->PV} {s s':cU} {r wr:List Nat}
structure rR (X:mM) (S:Nat->Prop) (s:cU) (N:Nat->List Nat) (L:List Nat):Prop where
 nd:L.Nodup
 ns:∀x∈L,¬S x
 new:∀x∈L,x∈X.F∨X.w0.heap.size<=x
 dj:∀id b,(s id).blk=some b->∀x∈L,x∉N id
theorem rR.left (h:rR X S s N (L1++L2)):rR X S s N L1:=
 ⟨(List.nodup_append.1 h.nd).1,fun x e=>h.ns x (by simp[e]),fun x e=>h.new x (by simp[e]),fun id b z x e=>h.dj id b z x (by simp[e])⟩
def oM (s:cU) (N:Nat->List Nat) (s':cU) (N':Nat->List Nat) (L:List Nat):Prop:=∀id b,(s' id).blk=some b->∀x∈N' id,x∈L∨∃b',(s id).blk=some b'/\x∈N id
theorem oM.refl:oM s N s N L:=fun id b e x z=> .inr ⟨b,e,z⟩
theorem oM.app {s1 D:cU} {N1 N2 N3:Nat->List Nat} (H:oM s1 N1 s2 N2 L1) (I:oM s2 N2 D N3 L2):oM s1 N1 D N3 (L1++L2):=fun id b M x R=>by
 rcases I id b M x R with h|⟨W,e,z⟩
 ·exact .inl (List.mem_append.2 (.inr h))
 ·rcases H id W e x z with h|h
  ·exact .inl (List.mem_append.2 (.inl h))
  ·exact .inr h
theorem rR.right {N':Nat->List Nat} (h:rR X S s N (L1++L2)) (I:oM s N s' N' L1):rR X S s' N' L2:=
 ⟨(List.nodup_append.1 h.nd).2.1,fun x e=>h.ns x (by simp[e]),fun x e=>h.new x (by simp[e]),fun id b M x e z=>by
  rcases I id b M x z with D|⟨R,H,D⟩
  ·exact(List.nodup_append.1 h.nd).2.2 x D x e rfl
  ·exact h.dj id R H x (by simp[e]) D⟩
theorem Tr.trans {S3:Nat->Prop} {D H I:World} {J1 J2 J3:Nat->Option (Nat×Nat)} {σ1 σ2 σ3:cU} (e:Tr S1 S2 D H J1 J2 σ1 σ2) (z:Tr S2 S3 H I J2 J3 σ2 σ3):Tr S1 S3 D I J1 J3 σ1 σ3:=
 ⟨fun h=>z.row (e.row h),fun h=>z.ref (e.ref h),fun h=>z.ptr (e.ptr h)⟩
theorem Tr.refl {w:World}:Tr S S w w J J σ σ:=⟨fun h=>h,fun h=>h,fun h=>h⟩
theorem e9.plain {w:World} (e:yJ p=true) (h:e9 S w J σ p u) (z:∀b,S b->S' b):e9 S' w J' σ' p u:=by
 have D:gI S w J σ p u []:=by
  cases p with
  | row own k l=>cases own with
   | true=>cases e
   | false=>exact⟨rfl,h⟩
  | obj o=>cases e
  | drow=>cases e
  | gb=>cases e
  | _=>exact⟨rfl,h⟩
 exact(D8 e D z).2
theorem rQ.lt {w:World}:∀(n:Nat) {k:K} {v:Value} {l:List (ty k)} {L:List Nat},AX k<n->rQ w k v l L->∀x∈L,x<w.heap.size
 | 0,_,_,_,_,h,_,_,_=>absurd h (mL _)
 | n+1,k,v,l,L,hn,h,x,hx=>by
  rcases iO.1 h with⟨_,_,rfl⟩ |⟨g,cap,cur,L',_,rfl,H⟩
  ·cases hx
  ·rcases List.mem_cons.1 hx with rfl|hx
   ·exact H.2.1.lt
   ·have key:∀(as:List d4) (bs:List Value) (M:List Nat),(∀lf∈as,∀k' z,lf= .nest k' z->AX k'<AX k)->bZ (iE w) as bs M->∀x∈M,x<w.heap.size:=by
     intro as
     induction as with
     | nil=>intro bs M _ h x hx;cases bs with
      | nil=>cases h;cases hx
      | cons=>exact h.elim
     | cons lf as ih=>
      intro bs M I h x hx
      cases bs with
      | nil=>exact h.elim
      | cons u bs=>
       obtain⟨M1,M2,e,R,W⟩:=h
       subst e
       rcases List.mem_append.1 hx with hx|hx
       ·cases lf with
        | sc q=>rw[R.2]at hx;cases hx
        | nest k' z=>
         have:=I _ (aN ..) k' z rfl
         exact rQ.lt n (by omega) R x hx
       ·exact ih bs M2 (fun lf' Y=>I lf' (aI _ Y)) W x hx
    refine key _ _ _ (fun lf D k' z e=> ?_) H.2.2.2.2.2 x hx
    obtain⟨y,_,hy⟩:=List.mem_flatMap.1 D
    obtain⟨j,hj⟩:=bD hy
    exact CP y j k' z (by rw[hj,e])
theorem rQ.lts {w:World} {v:Value} {l:List (ty k)} (h:rQ w k v l L):∀x∈L,x<w.heap.size:=rQ.lt _ (cM _) h
theorem HN {tm:Array Value} (h:lN X S ⟨t,s⟩ w tm J N) {id:Nat} (hid:99<=id) (H:gI S w J0 σ0 p u L) (D:rR X S s N L) (e:(D7 id p).Run PC s q s' r wr) :
  ∃J' N',lN X S ⟨t,s'⟩ w tm J' N'/\Tr S S w w J J' s s'/\e9 S w J' s' q u/\oM s N s' N' L:=by
 unfold D7 at e
 split at e
 ·rename_i k l
  obtain⟨R,wr',e⟩:=fA e
  obtain⟨rfl,rfl,-,-⟩:q=_/\s'=_/\R=[]/\wr'=[]:=e
  obtain⟨pl,W,Y,h3⟩:=lN.open (Z:=⟨t,s⟩) h hid (cM _) H D.ns D.new D.dj
  refine⟨_,_,W,Y,h3,fun i b I x z=> ?_⟩
  by_cases M:i=id
  ·subst M;rw[aD]at z;exact .inl z
  ·rw[bU _ _ M]at z I;exact .inr ⟨b,I,z⟩
 ·rename_i k l
  obtain⟨R,wr',e⟩:=fA e
  obtain⟨rfl,rfl,-,-⟩:q=_/\s'=_/\R=[]/\wr'=[]:=e
  obtain⟨pl,W,Y,h3⟩:=lN.openD (Z:=⟨t,s⟩) h (id:=id+1000000000) (by omega) (cM _) H H.lts D.nd D.ns D.new D.dj
  refine⟨_,_,W,Y,h3,fun i b I x z=> ?_⟩
  by_cases M:i=id+1000000000
  ·subst M;rw[aD]at z;exact .inl z
  ·rw[bU _ _ M]at z I;exact .inr ⟨b,I,z⟩
 ·rename_i o
  obtain⟨R,wr',e⟩:=fA e
  obtain⟨rfl,rfl,-,-⟩:q=_/\s'=_/\R=[]/\wr'=[]:=e
  obtain⟨b0,e1,rfl,e2⟩:=H
  obtain⟨W,Y,h3⟩:=lN.openO (Z:=⟨t,s⟩) h hid (cM _) e1 e2 D.ns D.new D.dj
  refine⟨_,_,W,Y,h3,fun i b I x z=> ?_⟩
  by_cases M:i=id
  ·subst M;rw[aD]at z;exact .inl z
  ·rw[bU _ _ M]at z I;exact .inr ⟨b,I,z⟩
 ·obtain⟨rfl,rfl,-,-⟩:q=_/\s'=_/\r=[]/\wr=[]:=e;exact⟨J,N,h,Tr.refl,H.2,oM.refl⟩
 ·obtain⟨rfl,rfl,-,-⟩:q=_/\s'=_/\r=[]/\wr=[]:=e;exact⟨J,N,h,Tr.refl,H.2,oM.refl⟩
 ·obtain⟨rfl,rfl,-,-⟩:q=_/\s'=_/\r=[]/\wr=[]:=e;exact⟨J,N,h,Tr.refl,H.2,oM.refl⟩
 ·obtain⟨rfl,rfl,-,-⟩:q=_/\s'=_/\r=[]/\wr=[]:=e;exact⟨J,N,h,Tr.refl,H.2,oM.refl⟩
 ·obtain⟨rfl,rfl,-,-⟩:q=_/\s'=_/\r=[]/\wr=[]:=e;exact⟨J,N,h,Tr.refl,e9.plain rfl H.2 (fun _ h=>h),oM.refl⟩
 ·obtain⟨rfl,rfl,-,-⟩:q=_/\s'=_/\r=[]/\wr=[]:=e;exact⟨J,N,h,Tr.refl,trivial,oM.refl⟩
 ·exact e.elim
theorem HM {S:Nat->Prop} {tm:Array Value} {J0:Nat->Option (Nat×Nat)} {σ0:cU}:∀{ps qs:List PV} {us:List Value} {id:Nat} {L:List Nat} {J:Nat->Option (Nat×Nat)} {N:Nat->List Nat} {s s':cU} {r wr:List Nat},lN X S ⟨t,s⟩ w tm J N->99<=id->bZ (gI S w J0 σ0) ps us L->rR X S s N L->(RY id ps).Run PC s qs s' r wr->
  ∃J' N',lN X S ⟨t,s'⟩ w tm J' N'/\Tr S S w w J J' s s'/\bC (e9 S w J' s') qs us/\oM s N s' N' L
 | [],qs,[],id,L,J,N,s,s',r,wr,h,_,H,z,D=>by
  obtain⟨rfl,rfl,-,-⟩:=D
  exact⟨J,N,h,Tr.refl,trivial,oM.refl⟩
 | p::ps,qs,u::us,id,L,J,N,s,s',r,wr,h,hid,H,z,D=>by
  obtain⟨L1,L2,rfl,R,W⟩:=H
  obtain⟨a1,s1,r1,w1,r2,w2,Y,k2⟩:=cB D
  obtain⟨a2,s2,r3,w3,r4,w4,k3,k4⟩:=cB k2
  obtain⟨e,e2,-,-⟩:=k4
  subst e e2
  obtain⟨J1,N1,m1,m2,m3,I⟩:=HN h hid R z.left Y
  obtain⟨J2,N2,m5,M,m7,m8⟩:=HM m1 (by omega) W (z.right I) k3
  exact⟨J2,N2,m5,m2.trans M,⟨M.vs m3,m7⟩,I.app m8⟩
 | [],_,_::_,_,_,_,_,_,_,_,_,_,_,h,_,_=>h.elim
 | _::_,_,[],_,_,_,_,_,_,_,_,_,_,h,_,_=>h.elim
theorem NB {id:Nat} (e:(D7 id p).Run PC s q s' r wr):(∀cs,q≠ .agg cs)/\∀cs,q≠ .tup cs:=by
 unfold D7 at e
 split at e
 ·obtain⟨z,wr',e⟩:=fA e
  obtain⟨rfl,-,-,-⟩:=e
  exact⟨by simp,by simp⟩
 ·obtain⟨z,wr',e⟩:=fA e
  obtain⟨rfl,-,-,-⟩:=e
  exact⟨by simp,by simp⟩
 ·obtain⟨z,wr',e⟩:=fA e
  obtain⟨rfl,-,-,-⟩:=e
  exact⟨by simp,by simp⟩
 all_goals first|exact e.elim|(obtain⟨rfl,-,-,-⟩:=e;exact⟨by simp,by simp⟩)
theorem RW {tm:Array Value} (h:lN X S ⟨t,s⟩ w tm J N) {id:Nat} (hid:99<=id) (D:kN S w J0 σ0 p u L) (hp:rR X S s N L) (hr:(aBh id p).Run PC s q s' r wr) :
  ∃J' N',lN X S ⟨t,s'⟩ w tm J' N'/\Tr S S w w J J' s s'/\GA S w J' s' q u/\oM s N s' N' L:=by
 by_cases H:∃cs,p= .agg cs
 ·obtain⟨cs,rfl⟩:=H
  obtain⟨us,rfl,D⟩:=D
  obtain⟨a1,s1,r1,w1,r2,w2,k1,k2⟩:=cB hr
  obtain⟨e,e2,-,-⟩:=k2
  subst e e2
  obtain⟨J1,N1,I,M,R,W⟩:=HM h hid D hp k1
  exact⟨J1,N1,I,M,⟨us,rfl,R⟩,W⟩
 ·have Y:gI S w J0 σ0 p u L:=by cases p<;>first|exact D|exact absurd ⟨_,rfl⟩ H
  have z:(D7 id p).Run PC s q s' r wr:=by cases p<;>first|exact hr|exact absurd ⟨_,rfl⟩ H
  obtain⟨J1,N1,I,M,R,W⟩:=HN h hid Y hp z
  have hq:=(NB z).1
  exact⟨J1,N1,I,M,by cases q<;>first|exact R|exact absurd rfl (hq _),W⟩
theorem aBi {id:Nat} (D:(aBh id p).Run PC s q s' r wr):∀cs,q≠ .tup cs:=by
 by_cases H:∃cs,p= .agg cs
 ·obtain⟨cs,rfl⟩:=H
  obtain⟨M,s1,R,W,Y,w2,k1,I⟩:=cB D
  obtain⟨e,-,-,-⟩:=I
  subst e
  simp
 ·have z:(D7 id p).Run PC s q s' r wr:=by cases p<;>first|exact D|exact absurd ⟨_,rfl⟩ H
  exact(NB z).2
theorem NA {S:Nat->Prop} {tm:Array Value} {J0:Nat->Option (Nat×Nat)} {σ0:cU}:∀{ps qs:List PV} {us:List Value} {id:Nat} {L:List Nat} {J:Nat->Option (Nat×Nat)} {N:Nat->List Nat} {s s':cU} {r wr:List Nat},lN X S ⟨t,s⟩ w tm J N->99<=id->bZ (kN S w J0 σ0) ps us L->rR X S s N L->(aDl id ps).Run PC s qs s' r wr->
  ∃J' N',lN X S ⟨t,s'⟩ w tm J' N'/\Tr S S w w J J' s s'/\bC (GA S w J' s') qs us/\oM s N s' N' L
 | [],qs,[],id,L,J,N,s,s',r,wr,h,_,H,z,D=>by
  obtain⟨rfl,rfl,-,-⟩:=D
  exact⟨J,N,h,Tr.refl,trivial,oM.refl⟩
 | p::ps,qs,u::us,id,L,J,N,s,s',r,wr,h,hid,H,z,D=>by
  obtain⟨L1,L2,rfl,R,W⟩:=H
  obtain⟨a1,s1,r1,w1,r2,w2,Y,k2⟩:=cB D
  obtain⟨a2,s2,r3,w3,r4,w4,k3,k4⟩:=cB k2
  obtain⟨e,e2,-,-⟩:=k4
  subst e e2
  obtain⟨J1,N1,m1,m2,m3,I⟩:=RW h hid R z.left Y
  obtain⟨J2,N2,m5,M,m7,m8⟩:=NA m1 (by omega) W (z.right I) k3
  exact⟨J2,N2,m5,m2.trans M,⟨M.v1 m3,m7⟩,I.app m8⟩
 | [],_,_::_,_,_,_,_,_,_,_,_,_,_,h,_,_=>h.elim
 | _::_,_,[],_,_,_,_,_,_,_,_,_,_,h,_,_=>h.elim
theorem aDn {tm:Array Value} (h:lN X S ⟨t,s⟩ w tm J N) {id:Nat} (hid:99<=id) (D:DL S w J0 σ0 p u L) (hp:rR X S s N L) (hr:(aEs id p).Run PC s q s' r wr) :
  ∃J' N',lN X S ⟨t,s'⟩ w tm J' N'/\Tr S S w w J J' s s'/\gM S w J' s' q u/\oM s N s' N' L:=by
 by_cases H:∃cs,p= .tup cs
 ·obtain⟨cs,rfl⟩:=H
  obtain⟨us,rfl,D⟩:=D
  obtain⟨a1,s1,r1,w1,r2,w2,k1,k2⟩:=cB hr
  obtain⟨e,e2,-,-⟩:=k2
  subst e e2
  obtain⟨J1,N1,I,M,R,W⟩:=NA h hid D hp k1
  exact⟨J1,N1,I,M,⟨us,rfl,R⟩,W⟩
 ·have Y:kN S w J0 σ0 p u L:=by cases p<;>first|exact D|exact absurd ⟨_,rfl⟩ H
  have z:(aBh id p).Run PC s q s' r wr:=by cases p<;>first|exact hr|exact absurd ⟨_,rfl⟩ H
  obtain⟨J1,N1,I,M,R,W⟩:=RW h hid Y hp z
  have hq:=aBi z
  exact⟨J1,N1,I,M,by cases q<;>first|exact R|exact absurd rfl (hq _),W⟩
end
open Go.RowKit
section
variable {P:Program} {PC:rU} {X:mM} {nt:Nat} {Q:Exit->Act->World->Prop} {Z:gU} {a:Act} {w:World} {o:Oper} {v:PV} {t:Nat->PV} {s s':cU} {r wr:List Nat}
theorem vR.flat {S S':Nat->Prop} {k:K} (z:flat k=true) {l:List (ty k)} {f:Nat->Option Value} (h:vR S w l f):vR S' w l f:=fun i x D j lf e=>by
 obtain⟨u,H,I⟩:=h i x D j lf e
 obtain⟨q,rfl⟩:=X4 z x lf (tF e)
 exact⟨u,H,I⟩
theorem G6.flat {S S':Nat->Prop} {k:K} (e:flat k=true) {u:Value} {l:List (ty k)} {L:List Nat} (h:G6 S w k u l L):G6 S' w k u l L:=by
 rcases h with h|⟨g,cap,cur,z,D,H,I,M,R,W,Y⟩
 ·exact .inl h
 ·exact .inr ⟨g,cap,cur,z,D,H,I,M,R,W,Y.flat e⟩
def aMr:PV->Bool| .row false _ _=>true| .row true k _=> !flat k| .eptr ..=>true|_=>false
theorem aMw (D:aMr p=false) (z:∀f cs,p= .fn f cs->cs=[]) (h:gI S w J σ p u L):gI S' w J σ p u L:=by
 cases p with
 | row own k l=>cases own with
  | true=>exact G6.flat (by simpa [aMr]using D) h
  | false=>cases D
 | eptr=>cases D
 | fn f caps=>
  obtain rfl:=z f caps rfl
  obtain⟨e,us,I,H⟩:=h
  refine⟨e,us,I,?_⟩
  cases M:us.toList with
  | nil=>trivial
  | cons x xs=>rw[M]at H;exact H.elim
 | _=>exact h
theorem bZ.imp {R R':PV->Value->List Nat->Prop} {B:PV->Bool} (h:∀p u L,B p=false->R p u L->R' p u L):∀{ps:List PV} {us:List Value} {L:List Nat},ps.any B=false->bZ R ps us L->bZ R' ps us L
 | [],[],_,_,h=>h
 | p::ps,u::us,L,z,⟨L1,L2,e,D,H⟩=>by
  simp only[o4,bL]at z
  exact⟨L1,L2,e,h _ _ _ z.1 D,bZ.imp h z.2 H⟩
 | [],_::_,_,_,h=>h.elim
 | _::_,[],_,_,h=>h.elim
theorem JF (e:V4 p=false) (h:gI S w J σ p u L):gI S' w J σ p u L:=by
 refine aMw ?_ ?_ h
 ·cases p<;>first|rfl|skip
  ·rename_i own k l;cases own<;>first|exact e|rfl
  ·exact e
 ·rintro f cs rfl
  cases cs<;>first|rfl|cases e
theorem aAV (H:fz1 p=false) (h:kN S w J σ p u L):kN S' w J σ p u L:=by
 by_cases z:∃cs,p= .agg cs
 ·obtain⟨cs,rfl⟩:=z
  obtain⟨us,e,h⟩:=h
  exact⟨us,e,bZ.imp (B:=V4) (fun p u L I h=>JF I h) H h⟩
 ·have M:gI S w J σ p u L:=by cases p<;>first|exact h|exact absurd ⟨_,rfl⟩ z
  have D:V4 p=false:=by cases p<;>first|exact H|exact absurd ⟨_,rfl⟩ z
  have:=JF (S':=S') D M
  cases p<;>first|exact this|exact absurd ⟨_,rfl⟩ z
theorem aHp (H:fzR p=false) (h:DL S w J σ p u L):DL S' w J σ p u L:=by
 by_cases z:∃cs,p= .tup cs
 ·obtain⟨cs,rfl⟩:=z
  obtain⟨us,e,h⟩:=h
  exact⟨us,e,bZ.imp (B:=fz1) (fun p u L I h=>aAV I h) H h⟩
 ·have M:kN S w J σ p u L:=by cases p<;>first|exact h|exact absurd ⟨_,rfl⟩ z
  have D:fz1 p=false:=by cases p<;>first|exact H|exact absurd ⟨_,rfl⟩ z
  have:=aAV (S':=S') D M
  cases p<;>first|exact this|exact absurd ⟨_,rfl⟩ z
end
open Go.RowKit
section
variable {P:Program} {PC:rU} {X:mM} {nt:Nat} {Q:Exit->Act->World->Prop} {Z:gU} {a:Act} {w:World} {o:Oper} {v:PV} {t:Nat->PV} {s s':cU} {r wr:List Nat}
theorem bC.map_args {S:Nat->Prop} {J:Nat->Option (Nat×Nat)} {σ:cU} {f:Operand->PV} {g:Operand->Value}:∀{xs:List Operand},(∀x∈xs,gM S w J σ (f x) (g x))->bC (gM S w J σ) (xs.map f) (xs.map g)
 | [],_=>trivial
 | x::xs,h=>⟨h x (by simp),bC.map_args fun y e=>h y (by simp[e])⟩
theorem lN.close {tm:Array Value} (h:lN X S Z w tm J N):St X Z w tm J N/\Tr S (Fz X w N Z.s) w w J J Z.s Z.s:=h.wide h.fz fun _ h=>h
end
open Go.RowKit
abbrev Em:=List (Nat×Nat×Nat×Nat)
def exI:Em->Nat->Nat->Nat->Option Nat
 | [],_,_,_=>none
 | (id',_,j',_)::l,k,id,j=>match Nat.beq id' id&&Nat.beq j' j with
  | true=>some k
  | false=>exI l (k+1) id j
def aK4 (id:Nat):Em->Bool
 | []=>false
 | (id',_)::l=>Nat.beq id' id||aK4 id l
def aPn:PV->Bool
 | .fn _ (_::_)=>true
 | _=>false
def WP (pn:TypeId->Option Nat):List PV->List TypeId->Em->eM Em
 | .ptr id ver _ j::l,t::ts,em=>(match aK4 id em,pn t with
  | false,some n=>WP pn l ts (em++ [(id,ver,j,n)])
  | _,_=>WP pn l ts em)
 | _::l,_::ts,em=>WP pn l ts em
 | _,_,em=> .ret em
def SZ:Nat->List PV->Em->eM Em
 | 0,_,_=> .fail
 | _,[],em=> .ret em
 | n+1,.ptr id ver _ _::l,em=>(match aK4 id em with
  | true=>SZ n l em
  | false=>oG id ver fun
   | .box cs=>SZ n (cs.filter aPn++l) (em++ [(id,ver,0,cs.length)])
   | .rowb _ _=> .fail
   | .objb _=> .fail
   | .iterb _ _ _ _ _=> .fail
   | .rowd _ _=> .fail
   | .rowx _ _ _ _=> .fail)
 | n+1,.fn _ caps::l,em=>SZ n (caps++l) em
 | n+1,_::l,em=>SZ n l em
def aIN (em:Em) (mv:Bool):PV->eM (PV×List Nat×List Nat)
 | .v x=> .ret (.v x,[],[])
 | .nil=> .ret (.nil,[],[])
 | .row false k l=> .ret (.row false k l,[],[])
 | .eptr k l i j=> .ret (.eptr k l i j,[],[])
 | .dead=> .ret (.dead,[],[])
 | .ref id ver off n full=>oG id ver fun
  | .rowb k l=>(match mv,full with
   | true,true=> .ret (.row true k l,[id],[])
   | true,false=> .fail
   | false,full=> .ret (.row false k (nQ full l off n),[],[id]))
  | .rowd k l=>(match mv,full with
   | true,true=> .ret (.drow k l,[id],[])
   | true,false=> .fail
   | false,full=> .ret (.row false k (nQ full l off n),[],[id]))
  | .box _=> .fail
  | .objb _=> .fail
  | .iterb _ _ _ _ _=> .fail
  | .rowx _ _ _ _=> .fail
 | .ptr id ver i j=>(match exI em 0 id j,i with
  | some e,0=>oG id ver fun
   | .box _=> .ret (.ptr e 0 0 0,[],[])
   | .rowb _ _=> .fail
   | .objb _=> .fail
   | .iterb _ _ _ _ _=> .fail
   | .rowd _ _=> .fail
   | .rowx _ _ _ _=> .fail
  | _,_=> .fail)
 | _=> .fail
def aKL (em:Em):List PV->eM (List PV)
 | []=> .ret []
 | p::ps=>(aIN em false p).bind fun a=>match a.2.2 with
  | []=>(aKL em ps).bind fun b=> .ret (a.1::b)
  | _::_=> .fail
def aGd (em:Em) (mv:Bool):PV->eM (PV×List Nat×List Nat)
 | .fn f caps=>(aKL em caps).bind fun cs=> .ret (.fn f cs,[],[])
 | p=>aIN em mv p
def aIM (em:Em) (mv:Bool):List PV->eM (List PV×List Nat×List Nat)
 | []=> .ret ([],[],[])
 | p::ps=>(aGd em mv p).bind fun a=>(aIM em mv ps).bind fun b=> .ret (a.1::b.1,a.2.1++b.2.1,a.2.2++b.2.2)
def aLN (em:Em) (mv:Bool):PV->eM (PV×List Nat×List Nat)
 | .agg cs=>(aIM em mv cs).bind fun a=> .ret (.agg a.1,a.2)
 | p=>aGd em mv p
def aKt (em:Em):List Bool->List PV->eM (List PV×List Nat×List Nat)
 | _,[]=> .ret ([],[],[])
 | mv,p::ps=>(aLN em (mv.headD false) p).bind fun a=>(aKt em mv.tail ps).bind fun b=> .ret (a.1::b.1,a.2.1++b.2.1,a.2.2++b.2.2)
def aK1 (em:Em):Em->eM (List (List PV)×List (List Nat))
 | []=> .ret ([],[])
 | (id,ver,j,n)::l=>oG id ver fun
  | .box cs=>if j+n<=cs.length then(aIM em true ((cs.drop j).take n)).bind fun a=>(match a.2.2 with
    | []=>(aK1 em l).bind fun b=> .ret (a.1::b.1,a.2.1::b.2)
    | _::_=> .fail)else .fail
  | .rowb _ _=> .fail
  | .objb _=> .fail
  | .iterb _ _ _ _ _=> .fail
  | .rowd _ _=> .fail
  | .rowx _ _ _ _=> .fail
def iP:List Nat->cU->cU
 | [],s=>s
 | id::l,s=>iP l (eN s id ⟨(s id).ver,none⟩)
def MZ {α:Type}:List Nat->eM α->eM α
 | [],k=>k
 | id::l,k=> .rd id fun e=> .wr id ⟨e.ver,none⟩ (MZ l k)
def aEh {α:Type}:Em->eM α->eM α
 | [],k=>k
 | (id,ver,j,n)::l,k=>oG id ver fun
  | .box cs=> .wr id ⟨ver,some (.box (splice cs j (List.replicate n .dead)))⟩ (aEh l k)
  | .rowb _ _=> .fail
  | .objb _=> .fail
  | .iterb _ _ _ _ _=> .fail
  | .rowd _ _=> .fail
  | .rowx _ _ _ _=> .fail
def aKK (em:Em):PV->Option PV
 | .ptr e 0 0 0=>match em[e]? with
  | some (id,ver,j,_)=>some (.ptr id ver 0 j)
  | none=>none
 | _=>none
def aDV (em:Em):List PV->Option (List PV)
 | []=>some []
 | p::ps=>match aKK em p,aDV em ps with
  | some q,some qs=>some (q::qs)
  | _,_=>none
def aHL (em:Em) (id:Nat):PV->eM PV
 | .fn f (c::cs)=>(match aDV em (c::cs)with
  | some qs=> .ret (.fn f qs)
  | none=> .fail)
 | p=>D7 id p
def aHK (em:Em) (id:Nat):List PV->eM (List PV)
 | []=> .ret []
 | p::ps=>(aHL em id p).bind fun q=>(aHK em (id+1) ps).bind fun qs=> .ret (q::qs)
def aAm (em0:Em) (base:Nat):Em->List (List PV)->eM PV->eM PV
 | [],[],k=>k
 | (id,ver,j,n)::em,y::ys,k=>(aHK em0 base y).bind fun cs'=>oG id ver fun
  | .box cs=>if j+cs'.length<=cs.length then .wr id ⟨ver,some (.box (splice cs j cs'))⟩ (aAm em0 (base+1000) em ys k)else .fail
  | .rowb _ _=> .fail
  | .objb _=> .fail
  | .iterb _ _ _ _ _=> .fail
  | .rowd _ _=> .fail
  | .rowx _ _ _ _=> .fail
 | _,_,_=> .fail
def sE (r:PV) (ys:List (List PV)):Bool:=fzR r||ys.any fun y=>y.any V4
def VJ:List Nat->List PV->eM PV->eM PV
 | [],[],k=>k
 | id::ids,.row true _ l::bs,k=> .rd id fun e=>match e with
  | ⟨ver,some (.rowb k0 _)⟩=>(match vX k0 l with
   | some l=> .wr id ⟨ver,some (.rowb k0 l)⟩ (VJ ids bs k)
   | none=> .fail)
  | _=> .fail
 | id::ids,.drow _ l::bs,k=> .rd id fun e=>match e with
  | ⟨ver,some (.rowd k0 _)⟩=>(match vX k0 l with
   | some l=> .wr id ⟨ver,some (.rowd k0 l)⟩ (VJ ids bs k)
   | none=> .fail)
  | _=> .fail
 | _,_,_=> .fail
def TX:PV->Bool
 | .gb _ _=>true
 | _=>false
def gbR:PV->PV
 | .gb r _=>r
 | r=>r
def gbB:PV->List PV
 | .gb _ b=>b
 | _=> []
def aCB (pn:TypeId->Option Nat) (mvs:FuncId->List Bool) (ln:FuncId->Bool) (o:Oper) (f:FuncId) (args:List PV) (ats:List TypeId):eM PV:=
 (WP pn args ats []).bind fun em0=>(SZ 64 args em0).bind fun em=>
 (aKt em (match ln f with
  | true=>List.replicate 64 true
  | false=>mvs f) args).bind fun a=>(aK1 em em).bind fun xs=>
 match yK (em.map (·.1)++(a.2.1++xs.2.flatten))&&I9 a.2.2 (a.2.1++xs.2.flatten)with
 | false=> .fail
 | true=> .call f a.1 xs.1 fun r ys=>
  let D:=(match ln f with
   | true=> []
   | false=>a.2.1)++xs.2.flatten++(match sE (gbR r) ys||(gbB r).any V4 with
   | true=>a.2.2
   | false=> [])
  match D.all (Nat.ble 99),TX r,ln f with
  | true,true,true=>MZ D<|aEh em<|VJ a.2.1 (gbB r) <|
   (aEs (NG o) (gbR r)).bind fun v=>aAm em (NG o+500000) em ys (.ret v)
  | true,false,false=>MZ D<|aEh em <|
   (aEs (NG o) r).bind fun v=>aAm em (NG o+500000) em ys (.ret v)
  | _,_,_=> .fail
section
variable {P:Program} {PC:rU} {X:mM} {nt:Nat} {Q:Exit->Act->World->Prop} {Z:gU} {a:Act} {w:World} {o:Oper} {v:PV} {s':cU} {r wr:List Nat}
theorem aFH {pn:TypeId->Option Nat}:∀{l:List PV} {ts:List TypeId} {em em':Em} {s s':cU} {r wr:List Nat},(WP pn l ts em).Run PC s em' s' r wr->s'=s:=by
 intro l
 induction l with
 | nil=>intro ts em em' s s' r wr h;cases ts<;>exact h.2.1
 | cons p l ih=>
  intro ts em em' s s' r wr h
  cases ts with
  | nil=>cases p<;>exact h.2.1
  | cons t ts=>
   cases p<;>try exact ih h
   unfold WP at h
   split at h
   ·exact ih h
   ·exact ih h
theorem aFI:∀{n:Nat} {l:List PV} {em em':Em} {s s':cU} {r wr:List Nat},(SZ n l em).Run PC s em' s' r wr->s'=s:=by
 intro n
 induction n with
 | zero=>intro l em em' s s' r wr h;cases l<;>exact h.elim
 | succ n ih=>
  intro l em em' s s' r wr h
  cases l with
  | nil=>exact h.2.1
  | cons p l=>
   cases p<;>try exact ih h
   unfold SZ at h
   split at h
   ·exact ih h
   ·obtain⟨b,e,_,rfl,h⟩:=fM h
    cases b<;>first|exact h.elim|exact ih h
theorem aAL:∀{em:Em} {k id j e:Nat},exI em k id j=some e->∃i ver n,e=k+i/\em[i]?=some (id,ver,j,n)
 | (id',ver',I,D)::l,k,id,j,e,h=>by
  unfold exI at h
  split at h
  ·rename_i z
   rw[aB]at z
   cases h
   rw[<-aS z.1,<-aS z.2]
   exact⟨0,ver',D,rfl,rfl⟩
  ·obtain⟨i,ver,n,M,H⟩:=aAL h
   exact⟨i+1,ver,n,by omega,by simpa using H⟩
 | [],_,_,_,_,h=>by cases h
def j0 (J:Nat->Option (Nat×Nat)):Nat×Nat×Nat×Nat->Nat×Nat:=fun x=>match J x.1 with
 | some (b,off)=>(b,off+x.2.2.1)
 | none=>(0,0)
def HE (em:Em) (J:Nat->Option (Nat×Nat)) (σ:cU) (J':Nat->Option (Nat×Nat)) (σ':cU):Prop:=
 ∀id j e ver cs u,exI em 0 id j=some e->σ id=⟨ver,some (.box cs)⟩->uE J σ id ver 0 j u->uE J' σ' e 0 0 0 u
theorem HE.of {em:Em} {xs:List (List PV)}:HE em J σ (kO (em.map (j0 J))) (iF xs):=by
 intro id j e ver cs u H I M
 obtain⟨i,ver',n,D,R⟩:=aAL H
 rw[bP]at D
 subst D
 obtain⟨h3,W,Y⟩:=M
 obtain⟨b,off,h6,h7⟩:=Y _ I
 refine⟨cT _,W,fun blk z=> ?_⟩
 unfold iF at z
 split at z
 ·cases z
  refine⟨b,off+j,?_,by rw[eY];exact h7⟩
  simp[kO,R,j0,h6]
 ·cases z
structure AH (X:mM) (Z:gU) (w:World) (J:Nat->Option (Nat×Nat)) (N:Nat->List Nat) (S':Nat->Prop) (pk:List Nat):Prop where
 f:∀b,Fz X w N Z.s b->S' b
 p:∀id∈pk,∀b∈N id,S' b
def oO (s:cU) (ids:List Nat):Prop:=∀id∈ids,∃ver blk k l,s id=⟨ver,some blk⟩/\l3 blk k l
variable {J:Nat->Option (Nat×Nat)} {N:Nat->List Nat} {tm:Array Value} {S':Nat->Prop} {J':Nat->Option (Nat×Nat)} {σ':cU} {em:Em}
theorem aHo {l:List (ty k)} {id:Nat} (e:St X Z w tm J N) (z:Z.s id=⟨ver,some (.rowb k l)⟩) (D:oF w J Z.s id ver off n true u) (H:∀b,Fz X w N Z.s b->S' b):G6 S' w k u l (N id):=by
 have I:iC Z.s (.ref id ver off n true)=some (.row true k l,[id],[]):=by
  unfold iC;simp only[z];simp
 have M:gI S' w J Z.s (.row true k l) u ([id].map N).flatten:=(tI (S':=S') (J':=J) (σ':=Z.s) e H (p:= .ref id ver off n true) D I (by simp)).2
 have R:G6 S' w k u l ([id].map N).flatten:=M
 simpa using R
theorem aFc {l:List (ty k)} {id:Nat} (e:St X Z w tm J N) (z:Z.s id=⟨ver,some (.rowd k l)⟩) (D:oF w J Z.s id ver off n true u):rQ w k u l (N id):=by
 have H:iC Z.s (.ref id ver off n true)=some (.drow k l,[id],[]):=by
  unfold iC;simp only[z];simp
 have I:gI (Fz X w N Z.s) w J Z.s (.drow k l) u ([id].map N).flatten:=(tI (S':=Fz X w N Z.s) (J':=J) (σ':=Z.s) e (fun _ h=>h) (p:= .ref id ver off n true) D H (by simp)).2
 have M:rQ w k u l ([id].map N).flatten:=I
 simpa using M
def MV (w:World) (J:Nat->Option (Nat×Nat)) (s:cU) (m:List Nat) (us:List Value):Prop:=bC (fun id u=>∃ver blk k l off n,s id=⟨ver,some blk⟩/\l3 blk k l/\oF w J s id ver off n true u) m us
theorem bC.app {α J:Type} {R:α->J->Prop}:∀{as:List α} {bs:List J} {cs:List α} {ds:List J},bC R as bs->bC R cs ds->bC R (as++cs) (bs++ds)
 | [],[],_,_,_,h=>h
 | _::_,_::_,_,_,⟨e,z⟩,h=>⟨e,bC.app z h⟩
theorem VF (M:St X Z w tm J N) (hE:HE em J Z.s J' σ') (I:e9 (Fz X w N Z.s) w J Z.s p u) (z:(aIN em mv p).Run PC Z.s (q,m,pk) s' r wr) (R:AH X Z w J N S' pk) :
  s'=Z.s/\gI S' w J' σ' q u (m.flatMap N)/\oO Z.s m/\oO Z.s pk/\(m=[]->e9 S' w J' σ' q u)/\(∀f cs,q≠ .fn f cs)/\(∀cs,q≠ .agg cs)/\(mv=false->m=[])/\(m=[]->DB S' w J' σ' q u)/\MV w J Z.s m (lW q u):=by
 have nl:oO Z.s []:=fun _ h=>by cases h
 unfold aIN at z
 split at z
 ·obtain⟨e,rfl,-,-⟩:=z;cases e;exact⟨rfl,⟨rfl,I⟩,nl,nl,fun _=>I,(fun _ _ e=>nomatch e),(fun _ e=>nomatch e),fun _=>rfl,fun _=>I,trivial⟩
 ·obtain⟨e,rfl,-,-⟩:=z;cases e;exact⟨rfl,⟨rfl,I⟩,nl,nl,fun _=>I,(fun _ _ e=>nomatch e),(fun _ e=>nomatch e),fun _=>rfl,fun _=>I,trivial⟩
 ·obtain⟨e,rfl,-,-⟩:=z;cases e
  rename_i k l
  have:e9 S' w J' σ' (.row false k l) u:=⟨rfl,I.2.mono R.f fun _ _ _ _ h=>h⟩
  exact⟨rfl,⟨rfl,this⟩,nl,nl,fun _=>this,(fun _ _ e=>nomatch e),(fun _ e=>nomatch e),fun _=>rfl,fun _=>this,trivial⟩
 ·obtain⟨e,rfl,-,-⟩:=z;cases e
  obtain⟨b,off,h1,h2,h3⟩:=I
  have:e9 S' w J' σ' (.eptr _ _ _ _) u:=⟨b,off,h1,h2,h3.mono R.f fun _ _ _ _ h=>h⟩
  exact⟨rfl,⟨rfl,this⟩,nl,nl,fun _=>this,(fun _ _ e=>nomatch e),(fun _ e=>nomatch e),fun _=>rfl,fun _=>this,trivial⟩
 ·obtain⟨e,rfl,-,-⟩:=z;cases e;exact⟨rfl,⟨rfl,trivial⟩,nl,nl,fun _=>trivial,(fun _ _ e=>nomatch e),(fun _ e=>nomatch e),fun _=>rfl,fun _=>trivial,trivial⟩
 ·rename_i id ver off n full
  have D:oF w J Z.s id ver off n full u:=I
  obtain⟨blk,r',H,rfl,z⟩:=fM z
  have peek:∀(k:K) (l:List (ty k)),l3 blk k l->AH X Z w J N S' [id]->(Z.s=Z.s/\gI S' w J' σ' (.row false k (nQ full l off n)) u (([]:List Nat).flatMap N)/\oO Z.s []/\oO Z.s [id]/\(([]:List Nat)=[]->e9 S' w J' σ' (.row false k (nQ full l off n)) u)/\(∀f cs,PV.row false k (nQ full l off n)≠ .fn f cs)/\(∀cs,PV.row false k (nQ full l off n)≠ .agg cs)/\(mv=false->([]:List Nat)=[])/\(([]:List Nat)=[]->DB S' w J' σ' (.row false k (nQ full l off n)) u)/\MV w J Z.s [] (lW (.row false k (nQ full l off n)) u)):=fun k l Y R=>by
   have lv:oO Z.s [id]:=fun i W=>by rw[List.mem_singleton.1 W];exact⟨ver,blk,k,l,H,Y⟩
   have:e9 S' w J' σ' (.row false k (nQ full l off n)) u:=⟨rfl,by rw[aAa M H Y.row D];exact oF.view M D H Y R.f fun b hbN=>R.p id (by simp) b hbN⟩
   exact⟨rfl,⟨rfl,this⟩,nl,lv,fun _=>this,(fun _ _ e=>nomatch e),(fun _ e=>nomatch e),fun _=>rfl,fun _=>this,trivial⟩
  cases blk with
  | box cs=>exact z.elim
  | objb o=>exact z.elim
  | iterb=>exact z.elim
  | rowx=>exact z.elim
  | rowb k l=>
   simp only at z
   split at z
   ·obtain⟨e,rfl,-,-⟩:=z
    cases e
    have lv:oO Z.s [id]:=fun i W=>by rw[List.mem_singleton.1 W];exact⟨ver,_,k,l,H,.b⟩
    refine⟨rfl,?_,lv,nl,(fun e=>nomatch e),(fun _ _ e=>nomatch e),(fun _ e=>nomatch e),(fun e=>nomatch e),(fun e=>nomatch e),⟨ver,_,k,l,off,n,H,.b,D⟩,trivial⟩
    have:=aHo (S':=S') M H D R.f
    show G6 S' w k u l _
    simpa using this
   ·exact z.elim
   ·obtain⟨e,rfl,-,-⟩:=z
    cases e
    exact peek k l .b R
  | rowd k l=>
   simp only at z
   split at z
   ·obtain⟨e,rfl,-,-⟩:=z
    cases e
    have lv:oO Z.s [id]:=fun i W=>by rw[List.mem_singleton.1 W];exact⟨ver,_,k,l,H,.d⟩
    refine⟨rfl,?_,lv,nl,(fun e=>nomatch e),(fun _ _ e=>nomatch e),(fun _ e=>nomatch e),(fun e=>nomatch e),(fun e=>nomatch e),⟨ver,_,k,l,off,n,H,.d,D⟩,trivial⟩
    have:=aFc M H D
    show rQ w k u l _
    simpa using this
   ·exact z.elim
   ·obtain⟨e,rfl,-,-⟩:=z
    cases e
    exact peek k l .d R
 ·rename_i id ver i j
  split at z
  ·rename_i e he
   obtain⟨blk,r',H,rfl,z⟩:=fM z
   cases blk with
   | box cs=>
    obtain⟨e,rfl,-,-⟩:=z
    cases e
    have:e9 S' w J' σ' (.ptr _ 0 0 0) u:=hE _ _ _ _ _ _ he H I
    exact⟨rfl,⟨rfl,this⟩,nl,nl,fun _=>this,(fun _ _ e=>nomatch e),(fun _ e=>nomatch e),fun _=>rfl,fun _=>this,trivial⟩
   | rowb k l=>exact z.elim
   | objb o=>exact z.elim
   | iterb=>exact z.elim
   | rowd=>exact z.elim
   | rowx=>exact z.elim
  ·exact z.elim
 ·exact z.elim
theorem VO (e:St X Z w tm J N) (H:HE em J Z.s J' σ') (I:∀b,Fz X w N Z.s b->S' b):∀{ps qs:List PV} {us:List Value} {s':cU} {r wr:List Nat},bC (DB (Fz X w N Z.s) w J Z.s) ps us->(aKL em ps).Run PC Z.s qs s' r wr->s'=Z.s/\bC (DB S' w J' σ') qs us
 | [],qs,[],s',r,wr,_,z=>by obtain⟨rfl,rfl,-,-⟩:=z;exact⟨rfl,trivial⟩
 | p::ps,qs,u::us,s',r,wr,⟨M,R⟩,z=>by
  obtain⟨⟨q,m,pk⟩,s1,r1,w1,r2,w2,W,D⟩:=cB z
  simp only at D
  cases pk with
  | cons _ _=>exact D.elim
  | nil=>
   obtain⟨qs',s2,r3,w3,r4,w4,Y,k4⟩:=cB D
   obtain⟨rfl,rfl,-,-⟩:=k4
   have hv:e9 (Fz X w N Z.s) w J Z.s p u:=by cases p<;>first|exact M|exact M.elim
   obtain⟨rfl,m1,m2,m3,m4,m5,m6,m7,m8,_⟩:=VF (S':=S') (J':=J') (σ':=σ') e H hv W ⟨I,fun _ h=>by cases h⟩
   obtain⟨rfl,n1⟩:=VO e H I R Y
   exact⟨rfl,m8 (m7 rfl),n1⟩
 | [],_,_::_,_,_,_,h,_=>h.elim
 | _::_,_,[],_,_,_,h,_=>h.elim
theorem VE (z:St X Z w tm J N) (I:HE em J Z.s J' σ') (M:e9 (Fz X w N Z.s) w J Z.s p u) (H:(aGd em mv p).Run PC Z.s (q,m,pk) s' r wr) (R:AH X Z w J N S' pk) :
  s'=Z.s/\gI S' w J' σ' q u (m.flatMap N)/\oO Z.s m/\oO Z.s pk/\(∀cs,q≠ .agg cs)/\MV w J Z.s m (lW q u):=by
 unfold aGd at H
 split at H
 ·rename_i f caps
  obtain⟨cs,s1,r1,w1,r2,w2,W,Y⟩:=cB H
  obtain⟨e,rfl,-,-⟩:=Y
  cases e
  obtain⟨us,rfl,D⟩:=M
  obtain⟨rfl,m1⟩:=VO (S':=S') (J':=J') (σ':=σ') z I R.f D W
  exact⟨rfl,⟨rfl,us,rfl,m1⟩,(fun _ h=>by cases h),(fun _ h=>by cases h),(fun _ e=>nomatch e),trivial⟩
 ·obtain⟨h1,h2,h3,h4,h5,h6,h7,h8,_,h9⟩:=VF (S':=S') (J':=J') (σ':=σ') z I M H R
  exact⟨h1,h2,h3,h4,h7,h9⟩
theorem oO.app {e l2:List Nat} (z:oO s e) (D:oO s l2):oO s (e++l2):=fun id h=>(List.mem_append.1 h).elim (z id) (D id)
theorem AH.left {e z:List Nat} (h:AH X Z w J N S' (e++z)):AH X Z w J N S' e:=⟨h.f,fun id D=>h.p id (bJ _ D)⟩
theorem AH.right {z e:List Nat} (h:AH X Z w J N S' (z++e)):AH X Z w J N S' e:=⟨h.f,fun id D=>h.p id (bG _ D)⟩
theorem K4 (z:St X Z w tm J N) (H:HE em J Z.s J' σ') {mv:Bool}:∀{ps qs:List PV} {us:List Value} {m pk:List Nat} {s':cU} {r wr:List Nat},bC (e9 (Fz X w N Z.s) w J Z.s) ps us->(aIM em mv ps).Run PC Z.s (qs,m,pk) s' r wr->AH X Z w J N S' pk->
  s'=Z.s/\bZ (gI S' w J' σ') qs us (m.flatMap N)/\oO Z.s m/\oO Z.s pk/\MV w J Z.s m (j8 qs us)
 | [],qs,[],m,pk,s',r,wr,_,D,_=>by obtain⟨e,rfl,-,-⟩:=D;cases e;exact⟨rfl,rfl,(fun _ h=>by cases h),(fun _ h=>by cases h),trivial⟩
 | p::ps,qs,u::us,m,pk,s',r,wr,⟨M,R⟩,D,I=>by
  obtain⟨⟨q,m1,p1⟩,s1,r1,w1,r2,w2,W,Y⟩:=cB D
  obtain⟨⟨qs',m2,p2⟩,s2,r3,w3,r4,w4,k3,k4⟩:=cB Y
  obtain⟨e,rfl,-,-⟩:=k4
  cases e
  obtain⟨rfl,a1,a2,a3,a4,a5⟩:=VE (S':=S') (J':=J') (σ':=σ') z H M W I.left
  obtain⟨rfl,b1,b2,b3,b4⟩:=K4 z H R k3 I.right
  exact⟨rfl,⟨_,_,cH,a1,b1⟩,a2.app b2,a3.app b3,bC.app a5 b4⟩
 | [],_,_::_,_,_,_,_,_,h,_,_=>h.elim
 | _::_,_,[],_,_,_,_,_,h,_,_=>h.elim
theorem aEP (z:St X Z w tm J N) (hE:HE em J Z.s J' σ') (H:gM (Fz X w N Z.s) w J Z.s p u) (hr:(aLN em mv p).Run PC Z.s (q,m,pk) s' r wr) (hA:AH X Z w J N S' pk) :
  s'=Z.s/\kN S' w J' σ' q u (m.flatMap N)/\oO Z.s m/\oO Z.s pk/\MV w J Z.s m (C6 q u):=by
 by_cases M:∃cs,p= .agg cs
 ·obtain⟨cs,rfl⟩:=M
  obtain⟨us,rfl,H⟩:=H
  obtain⟨⟨qs,m1,p1⟩,s1,r1,w1,r2,w2,k1,k2⟩:=cB hr
  obtain⟨e,rfl,-,-⟩:=k2
  cases e
  obtain⟨rfl,R,W,Y,I⟩:=K4 (S':=S') (J':=J') (σ':=σ') z hE H k1 hA
  exact⟨rfl,⟨us,rfl,R⟩,W,Y,I⟩
 ·have D:(aGd em mv p).Run PC Z.s (q,m,pk) s' r wr:=by
   cases p<;>first|exact hr|exact absurd ⟨_,rfl⟩ M
  have hnt:∀vs,p≠ .tup vs:=by rintro vs rfl;exact D.elim
  obtain⟨rfl,R,W,Y,I,a5⟩:=VE (S':=S') (J':=J') (σ':=σ') z hE (H.vs (fun cs e=>M ⟨cs,e⟩) hnt) D hA
  exact⟨rfl,by cases q<;>first|exact R|exact absurd rfl (I _),W,Y,by cases q<;>first|exact a5|exact absurd rfl (I _)⟩
theorem VD (z:St X Z w tm J N) (H:HE em J Z.s J' σ'):∀{mv:List Bool} {ps qs:List PV} {us:List Value} {m pk:List Nat} {s':cU} {r wr:List Nat},bC (gM (Fz X w N Z.s) w J Z.s) ps us->(aKt em mv ps).Run PC Z.s (qs,m,pk) s' r wr->AH X Z w J N S' pk->
  s'=Z.s/\bZ (kN S' w J' σ') qs us (m.flatMap N)/\oO Z.s m/\oO Z.s pk/\MV w J Z.s m (gS qs us)
 | mv,[],qs,[],m,pk,s',r,wr,_,D,_=>by
  have D:(eM.ret (([]:List PV),([]:List Nat),([]:List Nat))).Run PC Z.s (qs,m,pk) s' r wr:=by cases mv<;>exact D
  obtain⟨e,rfl,-,-⟩:=D;cases e;exact⟨rfl,rfl,(fun _ h=>by cases h),(fun _ h=>by cases h),trivial⟩
 | mv,p::ps,qs,u::us,m,pk,s',r,wr,⟨M,R⟩,D,I=>by
  obtain⟨⟨q,m1,p1⟩,s1,r1,w1,r2,w2,W,Y⟩:=cB D
  obtain⟨⟨qs',m2,p2⟩,s2,r3,w3,r4,w4,k3,k4⟩:=cB Y
  obtain⟨e,rfl,-,-⟩:=k4
  cases e
  obtain⟨rfl,a1,a2,a3,a4⟩:=aEP (S':=S') (J':=J') (σ':=σ') z H M W I.left
  obtain⟨rfl,b1,b2,b3,b4⟩:=VD z H R k3 I.right
  exact⟨rfl,⟨_,_,cH,a1,b1⟩,a2.app b2,a3.app b3,bC.app a4 b4⟩
 | _,[],_,_::_,_,_,_,_,_,h,_,_=>h.elim
 | _,_::_,_,[],_,_,_,_,_,h,_,_=>h.elim
def aF8 (s:cU) (em:Em):Prop:=∀id ver j n,(id,ver,j,n)∈em->∃cs,s id=⟨ver,some (.box cs)⟩/\j+n<=cs.length
theorem V0 {R:Em} (D:St X Z w tm J N) (hE:HE R J Z.s J' σ') (hF:∀b,Fz X w N Z.s b->S' b):∀{em:Em} {xs:List (List PV)} {ms:List (List Nat)} {s':cU} {r wr:List Nat},(aK1 R em).Run PC Z.s (xs,ms) s' r wr->
  s'=Z.s/\xs.length=em.length/\oO Z.s ms.flatten/\aF8 Z.s em/\(ms.map fun m=>m.flatMap N).length=em.length/\(∀(e:Nat) (x:Nat×Nat×Nat×Nat) (cs:List PV),em[e]?=some x->xs[e]?=some cs->cs.length=x.2.2.2)/\
  ∀(e:Nat) (p:Nat×Nat) (cs:List PV) (L:List Nat),(em.map (j0 J))[e]?=some p->xs[e]?=some cs->(ms.map fun m=>m.flatMap N)[e]?=some L->F8 S' w J' σ' p cs L
 | [],xs,ms,s',r,wr,z=>by
  obtain⟨e,rfl,-,-⟩:=z
  cases e
  exact⟨rfl,rfl,(fun _ h=>by cases h),(fun _ _ _ _ h=>by cases h),rfl,(fun e x cs h=>by simp at h),fun e p cs L h=>by simp at h⟩
 | (id,ver,j,n)::em,xs,ms,s',r,wr,z=>by
  obtain⟨blk,r',hb,rfl,z⟩:=fM z
  cases blk with
  | rowb k l=>exact z.elim
  | objb o=>exact z.elim
  | iterb=>exact z.elim
  | rowd=>exact z.elim
  | rowx=>exact z.elim
  | box cs=>
   simp only at z
   split at z
   case isFalse=>exact z.elim
   rename_i hjn
   obtain⟨⟨qs,m,pk⟩,s1,r1,w1,r2,w2,k1,k2⟩:=cB z
   simp only at k2
   cases pk with
   | cons _ _=>exact k2.elim
   | nil=>
    obtain⟨⟨xs',ms'⟩,s2,r3,w3,r4,w4,k3,k4⟩:=cB k2
    obtain⟨e,rfl,-,-⟩:=k4
    cases e
    obtain⟨b,off,cur,E,q1,q2,q3,q4,q5⟩:=D.blk id _ (by rw[hb])
    obtain⟨us,hul,hus,W⟩:∃us:List Value,us.length=n/\(∀i u,us[i]?=some u->cur[off+j+i]?=some u/\u.oneCell'=true)/\bC (e9 (Fz X w N Z.s) w J Z.s) ((cs.drop j).take n) us:=by
     have key:∀(l:List PV) (st:Nat),(∀i p,l[i]?=some p->cs[st+i]?=some p)->∃us:List Value,us.length=l.length/\(∀i u,us[i]?=some u->cur[off+st+i]?=some u/\u.oneCell'=true)/\bC (e9 (Fz X w N Z.s) w J Z.s) l us:=by
      intro l
      induction l with
      | nil=>intro st _;exact⟨[],rfl,(fun i u h=>by simp at h),trivial⟩
      | cons p l ih=>
       intro st hl
       obtain⟨us,e1,e2,e3⟩:=ih (st+1) fun i p M=>by rw[show st+1+i=st+(i+1) by omega];exact hl (i+1) p (by simpa using M)
       obtain⟨u,hu,h1c,hv⟩:=q5 st p (by simpa using hl 0 p rfl)
       refine⟨u::us,by simp[e1],fun i u' Y=> ?_,hv,e3⟩
       cases i with
       | zero=>simp at Y;subst Y;exact⟨by simpa using hu,h1c⟩
       | succ i=>rw[show off+st+(i+1)=off+(st+1)+i by omega];exact e2 i u' (by simpa using Y)
     obtain⟨us,e1,e2,e3⟩:=key ((cs.drop j).take n) j fun i p M=>by
      rw[aU]at M
      split at M
      ·rwa[bK]at M
      ·cases M
     exact⟨us,by rw[e1,aF,cA];omega,e2,e3⟩
    obtain⟨rfl,a1,a2,a3,_⟩:=K4 (S':=S') (J':=J') (σ':=σ') D hE W k1 ⟨hF,fun _ h=>by cases h⟩
    obtain⟨rfl,b1,b2,b3,b4,b5,b6⟩:=V0 D hE hF k3
    have hql:qs.length=n:=by
     rw[a1.len,hul]
    refine⟨rfl,by simp[b1],by rw[dE];exact a2.app b2,fun id' ver' j' n' hm=> ?_,by simp at b4⊢;exact b4,fun e x c H I=> ?_,fun e p c L H I hL=> ?_⟩
    ·rcases List.mem_cons.1 hm with hm|hm
     ·cases hm;exact⟨cs,hb,hjn⟩
     ·exact b3 id' ver' j' n' hm
    ·cases e with
     | zero=>simp at H I;subst H I;exact hql
     | succ e=>exact b5 e x c (by simpa using H) (by simpa using I)
    ·cases e with
     | zero=>
      simp at H I hL
      subst H I hL
      have e0:j0 J (id,ver,j,n)=(b,off+j):=by simp[j0,q1]
      rw[e0]
      exact⟨cur,E,us,q3,by rw[hql];show off+j+n<=_;omega,fun i u Y=>hus i u Y,a1⟩
     | succ e=>exact b6 e p c L (by simpa using H) (by simpa using I) (by simpa using hL)
end
open Go.RowKit
theorem sG {l:List Nat}:∀{s:cU} {id:Nat},id∉l->iP l s id=s id:=by
 induction l with
 | nil=>intro s id _;rfl
 | cons i l ih=>
  intro s id h
  simp only[dS,not_or]at h
  show iP l (eN s i _) id=s id
  rw[ih h.2,bU _ _ h.1]
theorem VV {l:List Nat}:∀{s:cU} {id:Nat},id∈l->iP l s id=⟨(s id).ver,none⟩:=by
 induction l with
 | nil=>intro s id h;cases h
 | cons i l ih=>
  intro s id h
  show iP l (eN s i _) id=_
  by_cases z:id∈l
  ·rw[ih z]
   by_cases e:id=i
   ·subst e;rw[aD]
   ·rw[bU _ _ e]
  ·have e:id=i:=by simpa [z]using h
   subst e
   rw[sG z,aD]
theorem sF {PC:rU} {α:Type} {k:eM α}:∀{l:List Nat} {s s':cU} {a:α} {r wr:List Nat},(MZ l k).Run PC s a s' r wr->∃e wr',k.Run PC (iP l s) a s' e wr'
 | [],s,s',a,r,wr,h=>⟨r,wr,h⟩
 | id::l,s,s',a,r,wr,h=>by
  obtain⟨e,_,w',_,h⟩:=h
  exact sF (l:=l) h
def aA2 (s:cU) (id ver j n:Nat):cU:=match s id with
 | ⟨_,some (.box cs)⟩=>eN s id ⟨ver,some (.box (splice cs j (List.replicate n .dead)))⟩
 | _=>s
theorem aA3 {id:Nat} (h:i≠id):aA2 s id ver j n i=s i:=by
 unfold aA2
 cases s id with
 | mk v b=>cases b with
  | none=>rfl
  | some b=>cases b with
   | box cs=>exact bU _ _ h
   | _=>rfl
theorem V7 {id v:Nat} {cs:List PV} (h:s id=⟨v,some (.box cs)⟩):aA2 s id ver j n=eN s id ⟨ver,some (.box (splice cs j (List.replicate n .dead)))⟩:=by
 unfold aA2;rw[h]
def m0:Em->cU->cU
 | [],s=>s
 | (id,ver,j,n)::l,s=>m0 l (aA2 s id ver j n)
theorem LL {PC:rU} {α:Type} {k:eM α}:∀{l:Em} {s s':cU} {a:α} {r wr:List Nat},(aEh l k).Run PC s a s' r wr->∃e wr',k.Run PC (m0 l s) a s' e wr'
 | [],s,s',a,r,wr,h=>⟨r,wr,h⟩
 | (id,ver,j,n)::l,s,s',a,r,wr,h=>by
  obtain⟨blk,e,z,rfl,h⟩:=fM h
  cases blk with
  | box cs=>
   obtain⟨w',_,h⟩:=h
   have:=LL h
   unfold m0
   rw[V7 z]
   exact this
  | rowb k l=>exact h.elim
  | objb o=>exact h.elim
  | iterb=>exact h.elim
  | rowd=>exact h.elim
  | rowx=>exact h.elim
theorem sK {l:Em}:∀{s:cU} {id:Nat},id∉l.map (·.1)->m0 l s id=s id:=by
 induction l with
 | nil=>intro s id _;rfl
 | cons x l ih=>
  obtain⟨i,ver,j,n⟩:=x
  intro s id h
  simp only[bR,dS,not_or]at h
  unfold m0
  rw[ih h.2,aA3 h.1]
theorem aFi {l:Em}:∀{s:cU} {id ver j n:Nat} {cs:List PV},(l.map (·.1)).Nodup->(id,ver,j,n)∈l->s id=⟨ver,some (.box cs)⟩->m0 l s id=⟨ver,some (.box (splice cs j (List.replicate n .dead)))⟩:=by
 induction l with
 | nil=>intro s id ver j n cs _ h;cases h
 | cons x l ih=>
  obtain⟨i,ver',I,M⟩:=x
  intro s id ver j n cs z h H
  rw[bR,gH]at z
  unfold m0
  rcases List.mem_cons.1 h with e|h
  ·cases e
   rw[sK z.1,V7 H]
   exact aD _ _ _
  ·have D:id≠i:=fun e=>z.1 (by rw[<-e];exact List.mem_map.2 ⟨_,h,rfl⟩)
   exact ih z.2 h (by rw[aA3 D];exact H)
theorem CT {cs new:List α} (h:j+new.length<=cs.length):(splice cs j new).length=cs.length:=by
 unfold splice;simp;omega
theorem S8 {cs new:List α} (h:j+new.length<=cs.length) (i:Nat):(splice cs j new)[i]?=if i<j then cs[i]? else if i<j+new.length then new[i-j]? else cs[i]?:=by
 unfold splice
 by_cases e:i<j
 ·rw[if_pos e,aQ,bM (by simp;omega),aU,if_pos e]
 ·rw[if_neg e]
  by_cases z:i<j+new.length
  ·rw[if_pos z,aQ,bI (by simp;omega),bM (by simp;omega)]
   congr 1;simp;omega
  ·rw[if_neg z,bI (by simp;omega),bK]
   congr 1;simp;omega
section
variable {P:Program} {PC:rU} {X:mM} {nt:Nat} {Q:Exit->Act->World->Prop} {Z:gU} {a:Act} {w:World} {o:Oper} {v:PV} {s':cU} {r wr:List Nat}
variable {J:Nat->Option (Nat×Nat)} {N:Nat->List Nat} {tm:Array Value}
theorem GM (z:St X Z w tm J N):∀{ids:List Nat},ids.Nodup->(∀id∈ids,∃b,(Z.s id).blk=some b)->(ids.flatMap N).Nodup
 | [],_,_=>nT
 | id::ids,H,I=>by
  rw[gH]at H
  obtain⟨b,W⟩:=I id (aN ..)
  rw[dD,nE]
  refine⟨z.nodup id b W,GM z H.2 fun i D=>I i (aI _ D),fun x Y y hy e=> ?_⟩
  subst e
  obtain⟨i,D,M⟩:=List.mem_flatMap.1 hy
  obtain⟨b',R⟩:=I i (aI _ D)
  exact z.disj id i b b' W R (fun e=>H.1 (e▸D)) x Y M
theorem QO (e:St X Z w tm J N) {em:Em} (z:aF8 Z.s em):(em.map (j0 J)).map (·.1)=(em.map (·.1)).flatMap N:=by
 induction em with
 | nil=>rfl
 | cons x em ih=>
  obtain⟨id,ver,j,n⟩:=x
  obtain⟨cs,D,_⟩:=z id ver j n (aN ..)
  obtain⟨b,off,cur,E,H,q2,_⟩:=e.blk id _ (by rw[D])
  have:=ih fun i v j n I=>z i v j n (aI _ I)
  simp only[bR,dD,this,q2]
  simp[j0,H]
abbrev Ren:=List (Nat×oE×List Nat)
def wT:Ren->cU->cU
 | [],s=>s
 | (id,b,_)::R,s=>wT R (eN s id ⟨(s id).ver,some b⟩)
def ST:Ren->(Nat->List Nat)->Nat->List Nat
 | [],N=>N
 | (id,_,L)::R,N=>ST R (eN N id L)
theorem vO:∀{R:Ren} {s:cU} {id:Nat},id∉R.map (·.1)->wT R s id=s id
 | [],_,_,_=>rfl
 | (i,b,L)::R,s,id,h=>by
  simp only[bR,dS,not_or]at h
  unfold wT
  rw[vO h.2,bU _ _ h.1]
theorem AZ:∀{R:Ren} {N:Nat->List Nat} {id:Nat},id∉R.map (·.1)->ST R N id=N id
 | [],_,_,_=>rfl
 | (i,b,L)::R,s,id,h=>by
  simp only[bR,dS,not_or]at h
  unfold ST
  rw[AZ h.2,bU _ _ h.1]
theorem aBD:∀{R:Ren} {s:cU} {id:Nat} {b:oE} {L:List Nat},(R.map (·.1)).Nodup->(id,b,L)∈R->wT R s id=⟨(s id).ver,some b⟩
 | (i,H,L0)::R,s,id,b,L,z,h=>by
  rw[bR,gH]at z
  unfold wT
  rcases List.mem_cons.1 h with e|h
  ·cases e
   rw[vO z.1,aD]
  ·have D:id≠i:=fun e=>z.1 (by rw[<-e];exact List.mem_map.2 ⟨_,h,rfl⟩)
   rw[aBD z.2 h,bU _ _ D]
 | [],_,_,_,_,_,h=>by cases h
theorem rI:∀{R:Ren} {N:Nat->List Nat} {id:Nat} {b:oE} {L:List Nat},(R.map (·.1)).Nodup->(id,b,L)∈R->ST R N id=L
 | (i,D,L0)::R,s,id,b,L,z,h=>by
  rw[bR,gH]at z
  unfold ST
  rcases List.mem_cons.1 h with e|h
  ·cases e
   rw[AZ z.1,aD]
  ·exact rI z.2 h
 | [],_,_,_,_,_,h=>by cases h
theorem BF {α:Type} {f:α->List Nat}:∀{l:List α},(l.flatMap f).Nodup->∀a∈l,(f a).Nodup/\∀b∈l,(∀x∈f a,x∉f b)∨a=b
 | [],_,a,h=>by cases h
 | c::l,D,a,I=>by
  rw[dD,nE]at D
  obtain⟨M,R,H⟩:=D
  have up:∀b∈l,∀x∈f b,x∈l.flatMap f:=fun b hb x z=>List.mem_flatMap.2 ⟨b,hb,z⟩
  rcases List.mem_cons.1 I with rfl|ha'
  ·refine⟨M,fun b hb=> ?_⟩
   rcases List.mem_cons.1 hb with rfl|hb
   ·exact .inr rfl
   ·exact .inl fun x z e=>H x z x (up b hb x e) rfl
  ·obtain⟨W,Y⟩:=BF R a ha'
   refine⟨W,fun b hb=> ?_⟩
   rcases List.mem_cons.1 hb with rfl|hb
   ·exact .inl fun x z e=>H x e x (up a ha' x z) rfl
   ·exact Y b hb
theorem aKJ (Y:St X Z w tm J N) {em:Em} {M D:List Nat} {R:Ren} {ys:List (List PV)} {Le':List (List Nat)}
  (hX:aF8 Z.s em) (hM:∀id∈M,∃ver blk k l,Z.s id=⟨ver,some blk⟩/\l3 blk k l) (hD:∀id∈D,99<=id/\∃ver blk k l,Z.s id=⟨ver,some blk⟩/\l3 blk k l) (hMD:∀id∈M,id∈D∨id∈R.map (·.1)) (hnd:(em.map (·.1)).Nodup)
  (hR:∀id b L,(id,b,L)∈R->∃ver blk k l l',Z.s id=⟨ver,some blk⟩/\l3 blk k l/\l3 b k l'/\l'.length=l.length/\(∀σ,yE S' w' J σ L id b)/\∀bb,J id=some (bb,0)->∀cur E fz cur' E' fz',w.heap[bb]?=some (Obj.cells cur E fz)->w'.heap[bb]?=some (Obj.cells cur' E' fz')->cur'.size=cur.size)
  (hRn:(R.map (·.1)).Nodup) (hRD:∀id∈R.map (·.1),id∉D/\id∉em.map (·.1))
  (hRL:∀id b L,(id,b,L)∈R->∀x∈L,x∈M.flatMap N∨w.heap.size<=x/\x<w'.heap.size) (hRd:(R.flatMap (·.2.2)).Nodup) (hRe:∀x∈R.flatMap (·.2.2),∀id∈em.map (·.1),x∉N id)
  (H:aEL w w' ((em.map (·.1)++M).flatMap N) (em.map (j0 J)) (em.map (·.2.2.2)))
  (hbox:∀(e:Nat) (p:Nat×Nat) (cs:List PV) (L:List Nat),(em.map (j0 J))[e]?=some p->ys[e]?=some cs->Le'[e]?=some L->F8 S' w' J0 σ0 p cs L)
  (hyl:ys.length=em.length) (hLl:Le'.length=em.length) (hyn:∀(e:Nat) (x:Nat×Nat×Nat×Nat) (cs:List PV),em[e]?=some x->ys[e]?=some cs->cs.length=x.2.2.2)
  (hSS:∀b,Fz X w N Z.s b->S' b) (hSf:∀b,S' b->Fz X w' (ST R N) (wT R (m0 em (iP D Z.s))) b) :
  Tr (Fz X w N Z.s) S' w w' J J Z.s (wT R (m0 em (iP D Z.s)))/\lN X S' ⟨Z.t,wT R (m0 em (iP D Z.s))⟩ w' tm J (ST R N):=by
 have row_box:∀{id ver ver':Nat} {blk:oE} {k:K} {l:List (ty k)} {cs:List PV},Z.s id=⟨ver,some blk⟩->l3 blk k l->Z.s id=⟨ver',some (.box cs)⟩->False:=fun h1 I h3=>by
  rw[h1]at h3;cases h3;cases I
 have hdx:∀id,id∈em.map (·.1)->id∉D:=fun id h1 I=>by
  obtain⟨⟨i,ver,j,n⟩,z,rfl⟩:=List.mem_map.1 h1
  obtain⟨cs,W,_⟩:=hX _ _ _ _ z
  obtain⟨_,ver',blk,k,l,hs',hw⟩:=hD _ I
  exact row_box hs' hw W
 have hσx:∀id ver j n cs,(id,ver,j,n)∈em->Z.s id=⟨ver,some (.box cs)⟩->wT R (m0 em (iP D Z.s)) id=⟨ver,some (.box (splice cs j (List.replicate n .dead)))⟩:=fun id ver j n cs z W=>by
  have hin:id∈em.map (·.1):=List.mem_map.2 ⟨_,z,rfl⟩
  rw[vO (fun h=>(hRD id h).2 hin)]
  exact aFi hnd z (by rw[sG (hdx id hin)];exact W)
 have hσd:∀id,id∈D->wT R (m0 em (iP D Z.s)) id=⟨(Z.s id).ver,none⟩:=fun id h=>by rw[vO (fun I=>(hRD id I).1 h),sK (fun I=>hdx id I h),VV h]
 have hσr:∀id b L,(id,b,L)∈R->wT R (m0 em (iP D Z.s)) id=⟨(Z.s id).ver,some b⟩:=fun id b L h=>by
  have hin:id∈R.map (·.1):=List.mem_map.2 ⟨_,h,rfl⟩
  rw[aBD hRn h,sK (hRD id hin).2,sG (hRD id hin).1]
 have hσo:∀id,id∉D->id∉em.map (·.1)->id∉R.map (·.1)->wT R (m0 em (iP D Z.s)) id=Z.s id:=fun id h1 I h3=>by rw[vO h3,sK I,sG h1]
 have hNx:∀id,id∈em.map (·.1)->ST R N id=N id:=fun id h=>AZ fun I=>(hRD id I).2 h
 let Ch:Nat->Prop:=fun id=>id∈D∨id∈em.map (·.1)∨id∈R.map (·.1)
 have hF:∀b,b∈(em.map (·.1)++M).flatMap N->∃id blk,Ch id/\(Z.s id).blk=some blk/\b∈N id:=fun b hb=>by
  obtain⟨id,hid,hbN⟩:=List.mem_flatMap.1 hb
  rcases List.mem_append.1 hid with h|h
  ·obtain⟨⟨i,ver,j,n⟩,z,rfl⟩:=List.mem_map.1 h
   obtain⟨cs,W,_⟩:=hX _ _ _ _ z
   exact⟨_,_,.inr (.inl h),by rw[W],hbN⟩
  ·obtain⟨ver,blk,k,l,W,_⟩:=hM id h
   exact⟨id,_,(hMD id h).elim .inl fun h=> .inr (.inr h),by rw[W],hbN⟩
 refine lN.step (Z:=Z) Y (wT R (m0 em (iP D Z.s))) Ch hSS (fun b hb=>H.old b hb.1 fun h=> ?_) hSf H.size (fun b hb hn=>H.old b hb fun h=> ?_) (fun id hn=> ?_) ?_ ?_ ?_ ?_ ?_ ?_ ?_ ?_ ?_ ?_
 ·obtain⟨id,blk,_,I,h3⟩:=hF b h
  exact hb.2.1 ⟨id,blk,I,h3⟩
 ·obtain⟨id,blk,h1,I,h3⟩:=hF b h
  exact hn id blk h1 I h3
 ·have hn:¬(id∈D∨id∈em.map (·.1)∨id∈R.map (·.1)):=hn
  rw[not_or,not_or]at hn
  exact⟨hσo id hn.1 hn.2.1 hn.2.2,rfl,AZ hn.2.2⟩
 ·rintro id hc v o n f u ⟨k1,k2,k3⟩
  rcases hc with hc|hc|hc
  ·rw[oF,hσd id hc]
   exact⟨k1,k2,fun blk k l e _=>by cases e⟩
  ·obtain⟨⟨i,ver,j,n'⟩,z,rfl⟩:=List.mem_map.1 hc
   obtain⟨cs,W,_⟩:=hX _ _ _ _ z
   rw[oF,hσx _ _ _ _ _ z W]
   refine⟨by rw[W]at k1;exact k1,k2,fun blk k l e hr=>by cases e;cases hr⟩
  ·obtain⟨⟨i,b,L⟩,z,rfl⟩:=List.mem_map.1 hc
   obtain⟨ver,blk,k,l,l',r1,r2,r3,r4,r5,r6⟩:=hR _ _ _ z
   simp only at r1 k1 k3⊢
   rw[oF,hσr _ _ _ z]
   refine⟨k1,k2,fun blk2 k2' l2 e hr2=> ?_⟩
   cases e
   cases r3.row.same hr2
   obtain⟨m1,m2⟩:=k3 blk k l (by rw[r1]) r2.row
   refine⟨by rw[r4];exact m1,?_⟩
   rcases m2 with m2|⟨bb,c,o2,m2,m3,m4,m5,m6⟩
   ·exact .inl m2
   ·refine .inr ⟨bb,c,o2,m2,m3,m4,m5,fun hf=> ?_⟩
    obtain⟨m7,m8,m9⟩:=m6 hf
    refine⟨m7,by rw[r4];exact m8,fun cur' E' fz' hh=> ?_⟩
    rcases uD r2.row (Y.blk i _ (by rw[r1]))with⟨q,_⟩ |⟨b2,cap,cur,q,_,_,⟨fz,q2,_⟩,_⟩
    ·rw[m2]at q;cases q
    ·rw[m2]at q;cases q
     rw[r6 _ m2 _ _ _ _ _ _ q2 hh]
     exact m9 _ _ _ q2
 ·rintro id hc v i' j' u ⟨k1,k2,k3⟩
  rcases hc with hc|hc|hc
  ·rw[uE,hσd id hc]
   exact⟨k1,k2,fun blk e=>by cases e⟩
  ·obtain⟨⟨i,ver,j,n'⟩,z,rfl⟩:=List.mem_map.1 hc
   obtain⟨cs,W,_⟩:=hX _ _ _ _ z
   rw[uE,hσx _ _ _ _ _ z W]
   refine⟨by rw[W]at k1;exact k1,k2,fun blk e=> ?_⟩
   cases e
   exact k3 _ W
  ·obtain⟨⟨i,b,L⟩,z,rfl⟩:=List.mem_map.1 hc
   obtain⟨ver,blk,k,l,l',r1,r2,r3,r4,r5,r6⟩:=hR _ _ _ z
   simp only at r1 k1 k3⊢
   rw[uE,hσr _ _ _ z]
   refine⟨k1,k2,fun blk2 e=> ?_⟩
   cases e
   obtain⟨bb,off,m1,m2⟩:=k3 blk (by rw[r1])
   refine⟨bb,off,m1,?_⟩
   have m3:off=0/\i'<l.length/\u= .pointer (some ⟨bb,i'*size k+j',none⟩):=by cases r2<;>exact m2
   rw[<-r4]at m3
   cases r3<;>exact m3
 ·rintro id b hc hb T
  rcases hc with hc|hc|hc
  ·rw[hσd id hc]at hb;cases hb
  ·obtain⟨⟨i,ver,j,n⟩,z,rfl⟩:=List.mem_map.1 hc
   obtain⟨cs,W,hjn⟩:=hX _ _ _ _ z
   rw[hNx _ hc]
   rw[hσx _ _ _ _ _ z W]at hb
   cases hb
   simp only at W⊢
   obtain⟨bb,off,cur,E,q1,q2,⟨fz,q3,q3'⟩,q4,q5⟩:=Y.blk i _ (by rw[W])
   obtain⟨e,he⟩:=bD z
   have he':e<em.length:=(iR.1 he).1
   have hloc:(em.map (j0 J))[e]?=some (bb,off+j):=by simp[he,j0,q1]
   obtain⟨c0,c,E',fz',p1,p2,p3,p4⟩:=H.part e bb (off+j) n hloc (by simp[he])
   rw[q3]at p1
   cases p1
   obtain⟨yc,hyc⟩:∃yc,ys[e]?=some yc:=⟨ys[e],by simp[hyl,he']⟩
   obtain⟨Lc,hLc⟩:∃Lc,Le'[e]?=some Lc:=⟨Le'[e],by simp[hLl,he']⟩
   have hycn:=hyn e _ yc he hyc
   simp only at hycn
   obtain⟨cur2,E2,us,r1,r2,r3,r4⟩:=hbox e _ yc Lc hloc hyc hLc
   obtain⟨fz2,r1,_⟩:=r1
   rw[p2]at r1
   cases r1
   have husl:us.length=yc.length:=by
    exact r4.len.symm
   have hsl:(splice cs j (List.replicate n PV.dead)).length=cs.length:=CT (by simp;omega)
   refine⟨bb,off,c,E,q1,q2,⟨fz,p2,by rw[VB,p3];exact q3'⟩,by rw[hsl,p3];exact q4,fun i' p hp=> ?_⟩
   rw[S8 (by simp;omega)]at hp
   have out:(i'<j∨j+n<=i')->cs[i']?=some p->∃u,c[off+i']?=some u/\u.oneCell'=true/\e9 S' w' J (wT R (m0 em (iP D Z.s))) p u:=fun hout hp=>by
    obtain⟨u,hu,h1c,hv⟩:=q5 i' p hp
    exact⟨u,by rw[p4 (off+i') (by omega)];exact hu,h1c,T.vs hv⟩
   split at hp
   ·rename_i h1;exact out (.inl h1) hp
   ·split at hp
    ·rename_i h1 I
     simp at I
     have hi2:i'-j<us.length:=by rw[husl,hycn];omega
     obtain⟨m1,m2⟩:=r3 (i'-j) us[i'-j] (by simp[hi2])
     rw[List.getElem?_replicate,if_pos (by omega)]at hp
     cases hp
     exact⟨_,by rw[show off+i'=off+j+(i'-j) by omega];exact m1,m2,trivial⟩
    ·rename_i h1 I
     simp at I
     exact out (.inr I) hp
  ·obtain⟨⟨i,b0,L⟩,z,rfl⟩:=List.mem_map.1 hc
   obtain⟨ver,blk,k,l,l',r1,r2,r3,r4,r5,r6⟩:=hR _ _ _ z
   rw[hσr _ _ _ z]at hb
   cases hb
   rw[rI hRn z]
   exact r5 _
 ·rintro id b hc hb x hx
  rcases hc with hc|hc|hc
  ·rw[hσd id hc]at hb;cases hb
  ·rw[hNx _ hc]at hx
   obtain⟨⟨i,ver,j,n⟩,z,rfl⟩:=List.mem_map.1 hc
   obtain⟨cs,W,hjn⟩:=hX _ _ _ _ z
   exact .inl ⟨_,_,.inr (.inl hc),by rw[W],hx⟩
  ·obtain⟨⟨i,b0,L⟩,z,rfl⟩:=List.mem_map.1 hc
   rw[rI hRn z]at hx
   rcases hRL _ _ _ z x hx with h|h
   ·obtain⟨id,hid,hbN⟩:=List.mem_flatMap.1 h
    obtain⟨ver,blk,k,l,W,_⟩:=hM id hid
    exact .inl ⟨id,_,(hMD id hid).elim .inl fun h=> .inr (.inr h),by rw[W],hbN⟩
   ·exact .inr h
 ·rintro id b hc hb
  rcases hc with hc|hc|hc
  ·rw[hσd id hc]at hb;cases hb
  ·rw[hNx _ hc]
   obtain⟨⟨i,ver,j,n⟩,z,rfl⟩:=List.mem_map.1 hc
   obtain⟨cs,W,hjn⟩:=hX _ _ _ _ z
   exact Y.nodup _ _ (by rw[W])
  ·obtain⟨⟨i,b0,L⟩,z,rfl⟩:=List.mem_map.1 hc
   rw[rI hRn z]
   exact(BF hRd _ z).1
 ·rintro id id' b b' hc hc' hb hb' hne
  rcases hc with hc|hc|hc
  ·rw[hσd id hc]at hb;cases hb
  ·rcases hc' with hc'|hc'|hc'
   ·rw[hσd id' hc']at hb';cases hb'
   ·rw[hNx _ hc,hNx _ hc']
    obtain⟨⟨i,ver,j,n⟩,z,rfl⟩:=List.mem_map.1 hc
    obtain⟨cs,W,hjn⟩:=hX _ _ _ _ z
    obtain⟨⟨i',ver',j',n'⟩,hm',rfl⟩:=List.mem_map.1 hc'
    obtain⟨cs',hs',hjn'⟩:=hX _ _ _ _ hm'
    exact Y.disj _ _ _ _ (by rw[W]) (by rw[hs']) hne
   ·obtain⟨⟨i,b0,L⟩,z,rfl⟩:=List.mem_map.1 hc'
    rw[hNx _ hc,rI hRn z]
    exact fun x hx hx'=>hRe x (List.mem_flatMap.2 ⟨_,z,hx'⟩) _ hc hx
  ·obtain⟨⟨i,b0,L⟩,z,rfl⟩:=List.mem_map.1 hc
   rcases hc' with hc'|hc'|hc'
   ·rw[hσd id' hc']at hb';cases hb'
   ·rw[hNx _ hc',rI hRn z]
    exact fun x hx hx'=>hRe x (List.mem_flatMap.2 ⟨_,z,hx⟩) _ hc' hx'
   ·obtain⟨⟨i',b0',L'⟩,hm',rfl⟩:=List.mem_map.1 hc'
    rw[rI hRn z,rI hRn hm']
    rcases(BF hRd _ z).2 _ hm' with h|h
    ·exact h
    ·exact absurd (congrArg (·.1) h) hne
 ·rintro j p hj hc
  obtain⟨h1,cs,I,h3⟩:=Y.ext j p hj
  rcases hc with hc|hc|hc
  ·obtain⟨_,ver,blk,k,l,W,hw⟩:=hD j hc
   rw[W]at I;cases I;cases hw
  ·obtain⟨⟨i,ver,j',n⟩,z,rfl⟩:=List.mem_map.1 hc
   obtain⟨cs',W,hjn⟩:=hX _ _ _ _ z
   simp only at I W⊢
   rw[W]at I
   cases I
   refine⟨h1,_,by rw[hσx _ _ _ _ _ z W],?_⟩
   rw[h3,CT (by simp;omega)]
  ·obtain⟨⟨i,b0,L⟩,z,rfl⟩:=List.mem_map.1 hc
   obtain⟨ver,blk,k,l,l',r1,r2,_⟩:=hR _ _ _ z
   simp only at r1 I
   rw[r1]at I;cases I;cases r2
 ·rintro q u n hq hc
  obtain⟨h1,blk0,k0,l0,I,h3,h4,_⟩:=Y.rxt q u n hq
  rcases hc with hc|hc|hc
  ·have:=(hD _ hc).1;omega
  ·obtain⟨⟨i,ver,j',n⟩,z,e⟩:=List.mem_map.1 hc
   obtain⟨cs',W,hjn⟩:=hX _ _ _ _ z
   simp only at e
   rw[e,I]at W;cases W;cases h3
  ·obtain⟨⟨i,b0,L⟩,z,e⟩:=List.mem_map.1 hc
   obtain⟨ver,blk,k,l,l',r1,r2,r3,r4,_⟩:=hR _ _ _ z
   simp only at e
   subst e
   rw[I]at r1
   cases r1
   exact⟨b0,k,l',by rw[hσr _ _ _ z,I],r3.row,by rw[r4,r2.row.len h3,h4]⟩
 ·obtain⟨f1,f2,f3,f4,f5,f6⟩:=Y.frm
  refine⟨H.os.trans f1,H.tape.trans f2,H.output.trans f3,aX f4 H.size,fun b hb hbF=> ?_,fun jx b off n hj hn=> ?_⟩
  ·rw[H.old b (by omega) fun h=> ?_]
   ·exact f5 b hb hbF
   ·obtain⟨id,blk,_,I,h3⟩:=hF b h
    rcases Y.new id blk I b h3 with h|h
    ·exact hbF h
    ·omega
  ·obtain⟨c0,c,E,fz,q1,q2,q3,q4⟩:=f6 jx b off n hj hn
   obtain⟨e1,cs,e2,e3⟩:=Y.ext jx (b,off) hj
   by_cases hin:jx∈em.map (·.1)
   ·obtain⟨⟨i,ver,j',n'⟩,z,rfl⟩:=List.mem_map.1 hin
    simp only at e1 e2
    obtain⟨cs',W,hjn⟩:=hX _ _ _ _ z
    rw[W]at e2
    cases e2
    rw[hn]at e3
    cases e3
    obtain⟨e,he⟩:=bD z
    have hloc:(em.map (j0 J))[e]?=some (b,off+j'):=by simp[he,j0,e1]
    obtain⟨c0',c',E',fz',p1,p2,p3,p4⟩:=H.part e b (off+j') n' hloc (by simp[he])
    rw[q2]at p1
    cases p1
    exact⟨c0,c',E,fz,q1,p2,p3.trans q3,fun o ho=>by rw[p4 o (by omega),q4 o ho]⟩
   ·refine⟨c0,c,E,fz,q1,?_,q3,q4⟩
    rw[H.old b ((Array.getElem?_eq_some_iff.1 q2).1) fun h=> ?_]
    ·exact q2
    ·obtain⟨id,blk,h1,I,h3⟩:=hF b h
     obtain⟨b0,o0,cur,E0,m1,m2,_⟩:=Y.blk jx _ e2
     rw[e1]at m1
     cases m1
     have hne:id≠jx:=by
      rintro rfl
      rcases h1 with h1|h1|h1
      ·obtain⟨_,ver,blk,k,l,W,hw⟩:=hD _ h1
       rw[W]at e2;cases e2;cases hw
      ·exact hin h1
      ·obtain⟨⟨i,b0,L⟩,z,rfl⟩:=List.mem_map.1 h1
       obtain⟨ver,blk,k,l,l',r1,r2,_⟩:=hR _ _ _ z
       simp only at r1 e2
       rw[r1]at e2;cases e2;cases r2
     exact Y.disj id jx _ _ I e2 hne b h3 (by rw[m2];simp)
 ·refine X.cl w w' Y.env fun b hb=>H.old b (by have:=X.hw;have:=Y.frm.size;omega) fun h=> ?_
  obtain⟨id,blk,_,I,h3⟩:=hF b h
  rcases Y.new id blk I b h3 with h|h
  ·have:=X.hG b h;omega
  ·have:=X.hw;omega
end
end Go.Px
set_option maxHeartbeats 2000000
namespace Go.Px
variable {S S' S1 S2:Nat->Prop} {k:K} {G i j n off ver:Nat} {J J' J0:Nat->Option (Nat×Nat)} {N:Nat->List Nat} {u:Value} {x:Operand} {w w':World} {f:FuncId} {us:List Value} {s s2 σ σ' σ0:cU} {p q:PV} {A B L L1 L2 La m pk:List Nat} {mv:Bool} {α:Type} {ps:List PV} {locs:List (Nat×Nat)} {Le:List (List Nat)} {exts':List (List PV)}
open Go.RowKit
section
variable {P:Program} {PC:rU} {X:mM} {nt:Nat} {Q:Exit->Act->World->Prop} {Z:gU} {a:Act} {w:World} {o:Oper} {v:PV} {t:Nat->PV} {s s':cU} {r wr:List Nat}
variable {J:Nat->Option (Nat×Nat)} {N:Nat->List Nat} {tm:Array Value} {S:Nat->Prop}
theorem lN.setBox (h:lN X S ⟨t,s⟩ w tm J N) {id b:Nat} {cs cs':List PV} (H:s id=⟨ver,some (.box cs)⟩) (z:j+cs'.length<=cs.length) (hβ:J id=some (b,off)) {cur:Array Value} {E:TypeId} (hrow:gY w b cur E)
  (hus:∀(i:Nat) u,us[i]?=some u->cur[off+j+i]?=some u/\u.oneCell'=true) (hall:bC (e9 S w J s) cs' us) :
  Tr S S w w J J s (eN s id ⟨ver,some (.box (splice cs j cs'))⟩)/\lN X S ⟨t,eN s id ⟨ver,some (.box (splice cs j cs'))⟩⟩ w tm J N:=by
 have M:∀i b',(eN s id ⟨ver,some (.box (splice cs j cs'))⟩ i).blk=some b'->∃b0,(s i).blk=some b0:=fun i b' R=>by
  by_cases hi:i=id
  ·subst hi;exact⟨_,by rw[H]⟩
  ·rw[bU _ _ hi]at R;exact⟨b',R⟩
 refine lN.step (Z:=⟨t,s⟩) h (eN s id ⟨ver,some (.box (splice cs j cs'))⟩) (· = id) (fun _ h=>h) (fun _ _=>rfl) (fun x hx=> ?_) (bB _) (fun _ _ _=>rfl) (fun i hi=>⟨bU _ _ hi,rfl,rfl⟩) ?_ ?_ ?_ ?_ ?_ ?_ ?_ (fun q u n hq e=>absurd e (h.rx_box H q u n hq)) h.frm h.env
 ·obtain⟨h1,W,h3⟩:=h.fz x hx
  exact⟨h1,fun⟨i,bl,h4,h5⟩=>by obtain⟨b0,h6⟩:=M i bl h4;exact W ⟨i,b0,h6,h5⟩,h3⟩
 ·rintro i rfl vv oo n f u ⟨I,k2,k3⟩
  rw[oF,aD]
  have I:vv<=(s i).ver:=I
  rw[H]at I
  exact⟨I,k2,fun blk k l e hr=>by cases e;cases hr⟩
 ·rintro i rfl vv Y j' u ⟨I,k2,k3⟩
  rw[uE,aD]
  have I:vv<=(s i).ver:=I
  rw[H]at I
  refine⟨I,k2,fun blk e=> ?_⟩
  cases e
  exact k3 _ H
 ·rintro i b' rfl R T
  rw[aD]at R
  cases R
  obtain⟨b0,off0,cur0,E0,q1,q2,q3,q4,q5⟩:=h.blk i _ (by show(s i).blk=_;rw[H])
  rw[hβ]at q1
  cases q1
  obtain⟨fz,p1,_⟩:=hrow
  obtain⟨fz0,p2,p3⟩:=q3
  rw[p1]at p2
  cases p2
  refine⟨b,off,cur,E,hβ,q2,⟨fz,p1,p3⟩,by rw[CT z];exact q4,fun Y p D=> ?_⟩
  rw[S8 z]at D
  have out:cs[Y]?=some p->∃u,cur[off+Y]?=some u/\u.oneCell'=true/\e9 S w J (eN s i ⟨ver,some (.box (splice cs j cs'))⟩) p u:=fun D=>by
   obtain⟨u,hu,h1c,hv⟩:=q5 Y p D
   exact⟨u,hu,h1c,T.vs hv⟩
  split at D
  ·exact out D
  ·split at D
   ·rename_i h1 W
    obtain⟨u,hu,hv⟩:=hall.get _ _ D
    obtain⟨m1,m2⟩:=hus _ _ hu
    exact⟨u,by rw[show off+Y=off+j+(Y-j) by omega];exact m1,m2,T.vs hv⟩
   ·exact out D
 ·rintro i b' rfl R x hx
  exact .inl ⟨_,_,rfl,by show(s _).blk=_;rw[H],hx⟩
 ·rintro i b' rfl R
  exact h.nodup i _ (by show(s i).blk=_;rw[H])
 ·rintro i Y b1 b2 rfl rfl _ _ hne
  exact absurd rfl hne
 ·rintro jx p D rfl
  obtain⟨h1,cs0,W,h3⟩:=h.ext jx p D
  have W:(s jx).blk=some (.box cs0):=W
  rw[H]at W
  cases W
  exact⟨h1,_,by rw[aD],by rw[h3,CT z]⟩
def HxB (em0:Em) (J0:Nat->Option (Nat×Nat)) (σ0:cU) (J:Nat->Option (Nat×Nat)) (s:cU):Prop:=∀(e:Nat) (x:Nat×Nat×Nat×Nat) (u:Value),em0[e]?=some x->uE J0 σ0 e 0 0 0 u->uE J s x.1 x.2.1 0 x.2.2.1 u
theorem HxB.tr {D H:World} {z:Em} {J1 J2:Nat->Option (Nat×Nat)} {s1:cU} (h:HxB z J0 σ0 J1 s1) (T:Tr S1 S2 D H J1 J2 s1 s2):HxB z J0 σ0 J2 s2:=fun e x u I M=>T.ptr (h e x u I M)
theorem aES {z:Em} (D:HxB z J0 σ0 J s) (h:aKK z p=some q) (H:DB S' w J0 σ0 p u):DB S w J s q u:=by
 unfold aKK at h
 split at h
 ·rename_i e
  split at h
  ·rename_i id ver j n I
   cases h
   exact D e _ u I H
  ·cases h
 ·cases h
theorem O5 {z:Em} {J0:Nat->Option (Nat×Nat)} {σ0:cU} (D:HxB z J0 σ0 J s) {S':Nat->Prop}:∀{ps qs:List PV} {us:List Value},aDV z ps=some qs->bC (DB S' w J0 σ0) ps us->bC (DB S w J s) qs us
 | [],qs,us,h,e=>by cases h;cases us<;>exact e
 | p::ps,qs,[],h,e=>e.elim
 | p::ps,qs,u::us,h,e=>by
  unfold aDV at h
  split at h
  ·rename_i q qs' H I
   cases h
   exact⟨aES D H e.1,O5 D I e.2⟩
  ·cases h
theorem aDm {D:Em} (I:HxB D J0 σ0 J s) (h:lN X S ⟨t,s⟩ w tm J N) {id:Nat} (hid:99<=id) (H:gI S w J0 σ0 p u L) (M:rR X S s N L) (z:(aHL D id p).Run PC s q s' r wr) :
  ∃J' N',lN X S ⟨t,s'⟩ w tm J' N'/\Tr S S w w J J' s s'/\e9 S w J' s' q u/\oM s N s' N' L:=by
 unfold aHL at z
 split at z
 ·rename_i f c cs
  split at z
  ·rename_i qs R
   obtain⟨rfl,rfl,-,-⟩:q=_/\s'=_/\r=[]/\wr=[]:=z
   obtain⟨_,us,e,W⟩:=H
   exact⟨J,N,h,Tr.refl,⟨us,e,O5 I R W⟩,oM.refl⟩
  ·exact z.elim
 ·exact HN h hid H M z
theorem RX {z:Em} {J0:Nat->Option (Nat×Nat)} {σ0:cU}:∀{ps qs:List PV} {us:List Value} {id:Nat} {L:List Nat} {J:Nat->Option (Nat×Nat)} {N:Nat->List Nat} {s s':cU} {r wr:List Nat},HxB z J0 σ0 J s->lN X S ⟨t,s⟩ w tm J N->99<=id->bZ (gI S w J0 σ0) ps us L->rR X S s N L->(aHK z id ps).Run PC s qs s' r wr->
  ∃J' N',lN X S ⟨t,s'⟩ w tm J' N'/\Tr S S w w J J' s s'/\bC (e9 S w J' s') qs us/\oM s N s' N' L
 | [],qs,[],id,L,J,N,s,s',r,wr,_,h,_,I,D,H=>by
  obtain⟨rfl,rfl,-,-⟩:=H
  exact⟨J,N,h,Tr.refl,trivial,oM.refl⟩
 | p::ps,qs,u::us,id,L,J,N,s,s',r,wr,M,h,hid,I,D,H=>by
  obtain⟨L1,L2,rfl,h1,h2⟩:=I
  obtain⟨a1,s1,r1,w1,r2,w2,k1,k2⟩:=cB H
  obtain⟨a2,s2,r3,w3,r4,w4,k3,k4⟩:=cB k2
  obtain⟨e,e2,-,-⟩:=k4
  subst e e2
  obtain⟨J1,N1,m1,R,m3,W⟩:=aDm M h hid h1 D.left k1
  obtain⟨J2,N2,m5,Y,m7,m8⟩:=RX (M.tr R) m1 (by omega) h2 (D.right W) k3
  exact⟨J2,N2,m5,R.trans Y,⟨Y.vs m3,m7⟩,W.app m8⟩
 | [],_,_::_,_,_,_,_,_,_,_,_,_,_,_,h,_,_=>h.elim
 | _::_,_,[],_,_,_,_,_,_,_,_,_,_,_,h,_,_=>h.elim
theorem O1 {Y:Em} {J0:Nat->Option (Nat×Nat)} {σ0:cU} {k:eM PV}:∀{em:Em} {ys:List (List PV)} {locs:List (Nat×Nat)} {Le:List (List Nat)} {base:Nat} {J:Nat->Option (Nat×Nat)} {N:Nat->List Nat} {s s':cU} {v:PV} {r wr:List Nat},HxB Y J0 σ0 J s->lN X S ⟨t,s⟩ w tm J N->99<=base->locs.length=em.length->Le.length=em.length->
  (∀(e:Nat) (p:Nat×Nat) (cs:List PV) (L:List Nat),locs[e]?=some p->ys[e]?=some cs->Le[e]?=some L->F8 S w J0 σ0 p cs L)->rR X S s N Le.flatten->
  (∀(e:Nat) (x:Nat×Nat×Nat×Nat) (p:Nat×Nat),em[e]?=some x->locs[e]?=some p->uE J s x.1 x.2.1 0 x.2.2.1 (.pointer (some ⟨p.1,p.2,none⟩)))->(aAm Y base em ys k).Run PC s v s' r wr->
  ∃J' N' s1 r' wr',lN X S ⟨t,s1⟩ w tm J' N'/\Tr S S w w J J' s s1/\k.Run PC s1 v s' r' wr'
 | [],[],locs,Le,base,J,N,s,s',v,r,wr,_,h,hb,hl,hL,hB,hP,D,I=>⟨J,N,s,r,wr,h,Tr.refl,I⟩
 | [],_::_,_,_,_,_,_,_,_,_,_,_,_,_,_,_,_,_,_,_,I=>I.elim
 | _::_,[],_,_,_,_,_,_,_,_,_,_,_,_,_,_,_,_,_,_,I=>I.elim
 | (id,ver,j,n)::em,y::ys,locs,Le,base,J,N,s,s',v,r,wr,hx,h,hb,hl,hL,hB,hP,D,I=>by
  match locs,Le,hl,hL with
  | p::locs,L::Le,hl,hL=>
  obtain⟨cs',s1,r1,w1,r2,w2,k1,z⟩:=cB I
  obtain⟨cur,E,us,b1,b2,b3,b4⟩:=hB 0 p y L rfl rfl rfl
  have hPl:rR X S s N L:=by rw[dE]at hP;exact hP.left
  obtain⟨J1,N1,st1,T1,v1,hh1⟩:=RX hx h hb b4 hPl k1
  obtain⟨blk,r3,M,rfl,z⟩:=fM z
  cases blk with
  | rowb k l=>exact z.elim
  | objb o=>exact z.elim
  | iterb=>exact z.elim
  | rowd=>exact z.elim
  | rowx=>exact z.elim
  | box cs=>
   simp only at z
   split at z
   case isFalse=>exact z.elim
   rename_i hfit
   obtain⟨w3,_,z⟩:=z
   have R:=T1.ptr (D 0 (id,ver,j,n) p rfl rfl)
   obtain⟨_,_,R⟩:=R
   obtain⟨b,off,e1,W⟩:=R _ M
   simp only at e1 W
   have e3:p=(b,off+j):=by
    obtain⟨p1,p2⟩:=p
    injection W with W
    injection W with W
    injection W with e4 e5
    simp only at e4 e5
    rw[e4,e5]
   subst e3
   obtain⟨T2,st2⟩:=lN.setBox st1 M hfit e1 b1 b3 v1
   have H:rR X S s1 N1 Le.flatten:=by rw[dE]at hP;exact hP.right hh1
   have hP3:rR X S (eN s1 id ⟨ver,some (.box (splice cs j cs'))⟩) N1 Le.flatten:=⟨H.nd,H.ns,H.new,fun i bl hbl x hx=>by
    by_cases hi:i=id
    ·subst hi;exact H.dj i _ (by rw[M]) x hx
    ·rw[bU _ _ hi]at hbl;exact H.dj i bl hbl x hx⟩
   obtain⟨J',N',s2,r',wr',q1,q2,q3⟩:=O1 ((hx.tr T1).tr T2) st2 (by omega) (by simpa using hl) (by simpa using hL) (fun e p c L h1 h2 h3=>hB (e+1) p c L (by simpa using h1) (by simpa using h2) (by simpa using h3)) hP3
    (fun e x p h1 h2=>T2.ptr (T1.ptr (D (e+1) x p (by simpa using h1) (by simpa using h2)))) z
   exact⟨J',N',s2,r',wr',q1,T1.trans (T2.trans q2),q3⟩
theorem P5 {N:Nat->List Nat}:∀{ms:List (List Nat)},(ms.map fun m=>m.flatMap N).flatten=ms.flatten.flatMap N
 | []=>rfl
 | m::ms=>by rw[bR,dE,dE,cH,P5]
theorem PG {a b:List Nat} (h:I9 a b=true):∀x∈a,x∉b:=fun x e z=>by
 have:=List.all_eq_true.1 h x e
 simp[z]at this
def DM (Q:PV->Value->List Nat->Prop) (s:cU) (x:Nat×oE×List Nat) (u:Value):Prop:=
 (∃ver k l0 l,s x.1=⟨ver,some (.rowb k l0)⟩/\x.2.1= .rowb k l/\Q (.row true k l) u x.2.2)∨∃ver k l0 l,s x.1=⟨ver,some (.rowd k l0)⟩/\x.2.1= .rowd k l/\Q (.drow k l) u x.2.2
theorem VK {PC:rU} {Q:PV->Value->List Nat->Prop} {k:eM PV} {v:PV} {s':cU}:∀{ids:List Nat} {bs:List PV} {gs:List Value} {L:List Nat} {s:cU} {r wr:List Nat},(VJ ids bs k).Run PC s v s' r wr->bZ Q bs gs L->ids.Nodup->
  ∃(R:Ren) (D wr':List Nat),R.map (·.1)=ids/\k.Run PC (wT R s) v s' D wr'/\R.flatMap (·.2.2)=L/\bC (DM Q s) R gs
 | [],[],[],L,s,r,wr,z,ho,_=>⟨[],r,wr,rfl,z,ho.symm,trivial⟩
 | id::ids,b::bs,u::gs,L,s,r,wr,z,ho,hn=>by
  obtain⟨L1,L2,e,h1,h2⟩:=ho
  subst e
  rw[gH]at hn
  have fin:∀(ver:Nat) (nb:oE) {r1 W:List Nat},(s id).ver=ver->(VJ ids bs k).Run PC (eN s id ⟨ver,some nb⟩) v s' r1 W->DM Q s (id,nb,L1) u->
    ∃(R:Ren) (D wr':List Nat),R.map (·.1)=id::ids/\k.Run PC (wT R s) v s' D wr'/\R.flatMap (·.2.2)=L1++L2/\bC (DM Q s) R (u::gs):=by
   intro ver nb r1 W hv z hro
   obtain⟨R,D,wr',q1,q2,q3,q4⟩:=VK z h2 hn.2
   refine⟨(id,nb,L1)::R,D,wr',by simp[q1],by unfold wT;rw[hv];exact q2,by rw[dD,q3],hro,?_⟩
   have key:∀(R:Ren) (gs:List Value),(∀x∈R,x.1≠id)->bC (DM Q (eN s id ⟨ver,some nb⟩)) R gs->bC (DM Q s) R gs:=by
    intro R
    induction R with
    | nil=>intro gs _ h;cases gs<;>exact h
    | cons x R ih=>
     intro gs Y h
     cases gs with
     | nil=>exact h
     | cons g gs=>
      refine⟨?_,ih gs (fun y hy=>Y y (aI _ hy)) h.2⟩
      have h0:=h.1
      unfold DM at h0⊢
      rw[bU _ _ (Y x (aN ..))]at h0
      exact h0
   exact key R gs (fun x Y e=>hn.1 (by rw[<-q1];exact List.mem_map.2 ⟨x,Y,e⟩)) q4
  unfold VJ at z
  split at z
  ·rename_i I e2;cases I
  ·rename_i i' ids' k1 l1 bs' I e2
   cases I;cases e2
   obtain⟨D,_,z⟩:=z
   simp only at z
   split at z
   case h_2=>exact z.elim
   rename_i ver k0 l0 M
   split at z
   case h_2=>exact z.elim
   rename_i l2 H
   obtain⟨rfl,rfl⟩:=hU H
   obtain⟨W,_,z⟩:=z
   exact fin ver _ (by rw[M]) z (.inl ⟨ver,k1,l0,l2,M,rfl,h1⟩)
  ·rename_i i' ids' k1 l1 bs' I e2
   cases I;cases e2
   obtain⟨D,_,z⟩:=z
   simp only at z
   split at z
   case h_2=>exact z.elim
   rename_i ver k0 l0 M
   split at z
   case h_2=>exact z.elim
   rename_i l2 H
   obtain⟨rfl,rfl⟩:=hU H
   obtain⟨W,_,z⟩:=z
   exact fin ver _ (by rw[M]) z (.inr ⟨ver,k1,l0,l2,M,rfl,h1⟩)
  ·exact z.elim
 | [],_::_,_,_,_,_,_,z,_,_=>z.elim
 | _::_,[],_,_,_,_,_,z,_,_=>z.elim
 | [],[],_::_,_,_,_,_,_,h,_=>h.elim
 | _::_,_::_,[],_,_,_,_,_,h,_=>h.elim
theorem bC.zip2 {α J γ:Type} {A:α->γ->Prop} {B:J->γ->Prop}:∀{as:List α} {bs:List J} {gs:List γ},bC A as gs->bC B bs gs->∀(i:Nat) a b,as[i]?=some a->bs[i]?=some b->∃g,A a g/\B b g
 | a::as,b::bs,g::gs,⟨D,H⟩,⟨I,M⟩,0,x,y,e,z=>by simp at e z;subst e z;exact⟨g,D,I⟩
 | a::as,b::bs,g::gs,⟨D,H⟩,⟨I,M⟩,i+1,x,y,e,z=>bC.zip2 H M i x y (by simpa using e) (by simpa using z)
 | [],_,_,_,_,i,x,y,e,_=>by simp at e
 | _::_,[],_,_,_,i,x,y,_,z=>by simp at z
 | _::_,_::_,[],h,_,_,_,_,_,_=>h.elim
theorem aLc (hst:St X ⟨t,s⟩ w tm J N) {mA:List Nat} {gs:List Value} {R:Ren} (hmv:MV w J s mA gs) (hR:bC (DM (gI S' w' J0 σ0) s) R gs) (hm:R.map (·.1)=mA):∀id b L,(id,b,L)∈R->∃ver blk k l H,s id=⟨ver,some blk⟩/\l3 blk k l/\l3 b k H/\H.length=l.length/\(∀σ,yE S' w' J σ L id b)/\∀bb,J id=some (bb,0)->∀cur E fz cur' E' fz',w.heap[bb]?=some (Obj.cells cur E fz)->w'.heap[bb]?=some (Obj.cells cur' E' fz')->cur'.size=cur.size:=fun id b L Y=>by
 obtain⟨i,hi⟩:=bD Y
 obtain⟨u,⟨ver,blk,k,l,off,n,I,h2,h3⟩,h4⟩:=bC.zip2 hmv hR i id _ (by rw[<-hm,bX,hi];rfl) hi
 obtain⟨_,_,h3⟩:=h3
 obtain⟨e1,e⟩:=h3 _ k l I h2.row
 have hd:=uD h2.row (hst.blk id _ (by show(s id).blk=_;rw[I]))
 rcases h4 with⟨ver',k',l0,H,M,p2,D⟩ |⟨ver',k',l0,H,M,p2,D⟩
 ·simp only at M p2 D
  rw[I]at M
  cases M
  cases h2
  subst p2
  rcases e with⟨e,W⟩ |⟨bb,c,o2,e,W,e4,e5,e6⟩
  ·refine⟨ver,_,k,l,H,I,.b,.b,?_,fun σ=> ?_,fun bb z=>by rw[e]at z;cases z⟩
   ·rcases hd with⟨_,q,_⟩ |⟨_,_,_,q,_⟩
    ·rcases D with⟨_,q2,_⟩ |⟨g,cap,cur,q2,_⟩
     ·rw[q,q2]
     ·rw[W]at q2;cases q2
    ·rw[e]at q;cases q
   ·rcases D with⟨_,q2,q3⟩ |⟨g,cap,cur,q2,_⟩
    ·exact .inl ⟨e,q2,q3⟩
    ·rw[W]at q2;cases q2
  ·obtain⟨f1,f2,f3⟩:=e6 rfl
   have ho:=e5 (.inr rfl)
   rw[f1,iI]at ho
   subst ho
   rcases D with⟨q2,_⟩ |⟨g,cap,cur,q2,q3,q4⟩
   ·rw[e4]at q2;cases q2
   ·rw[e4]at q2
    injection q2 with q5 q6 q7
    cases q5
    refine⟨ver,_,k,l,H,I,.b,.b,by rw[<-q6,f2],fun σ=> .inr ⟨bb,cap,cur,e,q3,q4⟩,fun b2 z cu E fz cu' E' fz' w1 w2=> ?_⟩
    rw[e]at z;cases z
    obtain⟨fz2,q8,_⟩:=q4.2.1
    rw[q8]at w2;cases w2
    rw[q4.2.2.2.2.1,<-q7,f3 _ _ _ w1]
 ·simp only at M p2 D
  rw[I]at M
  cases M
  cases h2
  subst p2
  rcases e with⟨e,W⟩ |⟨bb,c,o2,e,W,e4,e5,e6⟩
  ·refine⟨ver,_,k,l,H,I,.d,.d,?_,fun σ=> ?_,fun bb z=>by rw[e]at z;cases z⟩
   ·rcases hd with⟨_,q,_⟩ |⟨_,_,_,q,_⟩
    ·rcases iO.1 D with⟨_,q2,_⟩ |⟨g,cap,cur,L',q2,_⟩
     ·rw[q,q2]
     ·rw[W]at q2;cases q2
    ·rw[e]at q;cases q
   ·rcases iO.1 D with⟨_,q2,q3⟩ |⟨g,cap,cur,L',q2,_⟩
    ·exact .inl ⟨e,q2,q3⟩
    ·rw[W]at q2;cases q2
  ·obtain⟨f1,f2,f3⟩:=e6 rfl
   have ho:=e5 (.inr rfl)
   rw[f1,iI]at ho
   subst ho
   rcases iO.1 D with⟨q2,_⟩ |⟨g,cap,cur,L',q2,q3,q4⟩
   ·rw[e4]at q2;cases q2
   ·rw[e4]at q2
    injection q2 with q5 q6 q7
    cases q5
    refine⟨ver,_,k,l,H,I,.d,.d,by rw[<-q6,f2],fun σ=> .inr ⟨bb,cap,cur,L',e,q3,q4⟩,fun b2 z cu E fz cu' E' fz' w1 w2=> ?_⟩
    rw[e]at z;cases z
    obtain⟨fz2,q8,_⟩:=q4.2.1
    rw[q8]at w2;cases w2
    rw[q4.2.2.2.2.1,<-q7,f3 _ _ _ w1]
theorem XN {E:World->Prop} {pn:TypeId->Option Nat} {mvs:FuncId->List Bool} {ln:FuncId->Bool} (hE:X.E=E) (hG:X.G=G) {ats:List TypeId} (hexec:(execOp a.eval o).run P w=(callFunc f us.toArray).run P w) (hg:cE X nt Z a w)
  (hps:∀J N,St X Z w a.tmps J N->bC (gM (Fz X w N Z.s) w J Z.s) ps us)
  (h:(aCB pn mvs ln o f ps ats).Run (hO P G E) Z.s v s' r wr):o.wp P a w (fun a' w'=>cE X nt ⟨eJ o.dst v Z.t,s'⟩ a' w') Q:=by
 obtain⟨hs,hd,J,N,z⟩:=id hg
 have hargs:=hps J N z
 unfold aCB at h
 obtain⟨em0,s1,r1,w1,r2,w2,k1,h⟩:=cB h
 obtain rfl:=aFH k1
 obtain⟨em,s2,r3,w3,r4,w4,k2,h⟩:=cB h
 obtain rfl:=aFI k2
 obtain⟨⟨qs,mA,pk⟩,s3,r5,w5,r6,w6,k3,h⟩:=cB h
 let S1:Nat->Prop:=fun b=>Fz X w N Z.s b∨∃id∈pk,b∈N id
 have hAH:AH X Z w J N S1 pk:=⟨fun b hb=> .inl hb,fun id hi b hb=> .inr ⟨id,hi,hb⟩⟩
 obtain⟨⟨xs,ms⟩,s4,r7,w7,r8,w8,k4,h⟩:=cB h
 have hHE:HE em J Z.s (kO (em.map (j0 J))) (iF xs):=HE.of
 obtain⟨rfl,a1,a2,a3,a4⟩:=VD (S':=S1) z hHE hargs k3 hAH
 obtain⟨rfl,b1,b2,b3,b4,b5,b6⟩:=V0 (S':=S1) z hHE hAH.f k4
 simp only at h
 split at h
 case h_1=>exact h.elim
 rename_i hchk
 rw[aB]at hchk
 have hnd:=tR hchk.1
 have hdj:=PG hchk.2
 obtain⟨r0,ys,hPC,h⟩:=h
 have hemnd:(em.map (·.1)).Nodup:=(List.nodup_append.1 hnd).1
 have Y:∀id∈em.map (·.1)++(mA++ms.flatten),∃b,(Z.s id).blk=some b:=fun id hid=>by
  rcases List.mem_append.1 hid with hid|hid
  ·obtain⟨⟨i,ver,j,n⟩,hm,rfl⟩:=List.mem_map.1 hid
   obtain⟨cs,e,_⟩:=b3 _ _ _ _ hm
   exact⟨_,by rw[e]⟩
  ·obtain⟨ver,blk,k,l,e,_⟩:=(a2.app b2) id hid
   exact⟨_,by rw[e]⟩
 have hF1:(em.map (j0 J)).map (·.1)++mA.flatMap N++(ms.map fun m=>m.flatMap N).flatten=(em.map (·.1)++(mA++ms.flatten)).flatMap N:=by
  rw[QO z b3,P5,cH,cH,aQ]
 have hFnd:((em.map (·.1)++(mA++ms.flatten)).flatMap N).Nodup:=GM z hnd Y
 have hFlt:∀b∈(em.map (·.1)++(mA++ms.flatten)).flatMap N,G<=b/\b<w.heap.size:=fun b hb=>by
  obtain⟨id,hid,W⟩:=List.mem_flatMap.1 hb
  obtain⟨bl,hbl⟩:=Y id hid
  refine⟨?_,z.lt id bl hbl b W⟩
  rw[<-hG]
  rcases z.new id bl hbl b W with h|h
  ·exact X.hG b h
  ·exact aX X.hw h
 have hxpk:∀id∈pk,id∉em.map (·.1)++(mA++ms.flatten):=fun id hid hm=>by
  rcases List.mem_append.1 hm with hm|hm
  ·obtain⟨⟨i,ver,j,n⟩,hm2,rfl⟩:=List.mem_map.1 hm
   obtain⟨cs,e,_⟩:=b3 _ _ _ _ hm2
   obtain⟨ver',blk,k,l,e',hw⟩:=a3 _ hid
   rw[e]at e';cases e';cases hw
  ·exact hdj id hid hm
 have hS1:∀b,S1 b->b<w.heap.size/\b∉(em.map (·.1)++(mA++ms.flatten)).flatMap N:=fun b hb=>by
  rcases hb with hb|⟨id,hid,W⟩
  ·refine⟨hb.1,fun hm=> ?_⟩
   obtain⟨id,hid,W⟩:=List.mem_flatMap.1 hm
   obtain⟨bl,hbl⟩:=Y id hid
   exact hb.2.1 ⟨id,bl,hbl,W⟩
  ·obtain⟨ver,blk,k,l,e,_⟩:=a3 id hid
   refine⟨z.lt id _ (by rw[e]) b W,fun hm=> ?_⟩
   obtain⟨id',hid',hbN'⟩:=List.mem_flatMap.1 hm
   obtain⟨bl,hbl⟩:=Y id' hid'
   exact z.disj id id' _ _ (by rw[e]) hbl (fun e=>hxpk id hid (e▸hid')) b W hbN'
 obtain⟨hylen,hPC⟩:=hPC
 have I:=hPC w S1 us (em.map (j0 J)) (mA.flatMap N) (ms.map fun m=>m.flatMap N) (by rw[<-hG];exact aX X.hw z.frm.size) (by rw[<-hE];exact z.env) (by simp[b1]) (by rw[b4,b1]) (by rw[hF1];exact hFnd) (by rw[hF1];exact hFlt) (by rw[hF1];exact hS1) a1 b6
 rw[hF1]at I
 have hlens:xs.map List.length=em.map (·.2.2.2):=by
  apply kX
  intro i
  rw[bX,bX]
  by_cases hi:i<em.length
  ·have e1:em[i]?=some em[i]:=by simp[hi]
   have e2:xs[i]?=some (xs[i]'(by omega)):=by simp[b1,hi]
   rw[e1,e2]
   simp only[fR]
   rw[b5 i _ _ e1 e2]
  ·rw[dF (by omega),dF (by omega)];rfl
 rw[hlens]at I
 have hyl:ys.length=em.length:=by have:=congrArg List.length hylen;simp only[aP]at this;rw[this,b1]
 have hyn:∀(e:Nat) (x:Nat×Nat×Nat×Nat) (cs:List PV),em[e]?=some x->ys[e]?=some cs->cs.length=x.2.2.2:=fun e x cs he hc=>by
  have h1:(ys.map List.length)[e]?=(em.map (·.2.2.2))[e]?:=by rw[hylen,hlens]
  rw[bX,bX,he,hc]at h1
  simpa using h1
 have hLe:mA.flatMap N++(ms.map fun m=>m.flatMap N).flatten=(mA++ms.flatten).flatMap N:=by rw[P5,cH]
 have core:∀(w':World) (Lr:List Nat) (Le':List (List Nat)) (rr:PV) (bs:List PV) (gs:List Value) (Lg:List Nat) (u:Value) (D:List Nat) (R:Ren) {r9 w9:List Nat},(∀id∈D,99<=id)->(∀id∈mA,id∈D∨id∈R.map (·.1))->(∀id∈D,id∈mA++ms.flatten∨((sE rr ys||bs.any V4)=true/\id∈pk))->(∀id∈ms.flatten,id∈D)->((sE rr ys||bs.any V4)=true->∀id∈pk,id∈D)->
   Le'.length=xs.length->((em.map (j0 J)).map (·.1)++(Lr++Lg)++Le'.flatten).Nodup->
   (∀b∈(Lr++Lg)++Le'.flatten,(b∈mA.flatMap N++(ms.map fun m=>m.flatMap N).flatten∨w.heap.size<=b)/\b<w'.heap.size)->
   DL (fun b=>(S1 b∨b∈mA.flatMap N++(ms.map fun m=>m.flatMap N).flatten∨w.heap.size<=b)/\b<w'.heap.size/\b∉(em.map (j0 J)).map (·.1)++(Lr++Lg)++Le'.flatten) w' (kO (em.map (j0 J))) (iF ys) rr u Lr->
   (∀(j:Nat) p cs L,(em.map (j0 J))[j]?=some p->ys[j]?=some cs->Le'[j]?=some L->F8 (fun b=>(S1 b∨b∈mA.flatMap N++(ms.map fun m=>m.flatMap N).flatten∨w.heap.size<=b)/\b<w'.heap.size/\b∉(em.map (j0 J)).map (·.1)++(Lr++Lg)++Le'.flatten) w' (kO (em.map (j0 J))) (iF ys) p cs L)->
   aEL w w' ((em.map (·.1)++(mA++ms.flatten)).flatMap N) (em.map (j0 J)) (em.map (·.2.2.2))->
   R.flatMap (·.2.2)=Lg->(R.map (·.1)).Sublist mA->(∀id∈R.map (·.1),id∉D)->
   (∀S':Nat->Prop,(∀b,S' b->b<w'.heap.size)->((sE rr ys||bs.any V4)=true->∀b,((S1 b∨b∈mA.flatMap N++(ms.map fun m=>m.flatMap N).flatten∨w.heap.size<=b)/\b<w'.heap.size/\b∉(em.map (j0 J)).map (·.1)++(Lr++Lg)++Le'.flatten)->S' b)->∀id b L,(id,b,L)∈R->∃ver blk k l l',Z.s id=⟨ver,some blk⟩/\l3 blk k l/\l3 b k l'/\l'.length=l.length/\(∀σ,yE S' w' J σ L id b)/\∀bb,J id=some (bb,0)->∀cur E fz cur' E' fz',w.heap[bb]?=some (Obj.cells cur E fz)->w'.heap[bb]?=some (Obj.cells cur' E' fz')->cur'.size=cur.size)->
   ((aEs (NG o) rr).bind fun v=>aAm em (NG o+500000) em ys (.ret v)).Run (hO P G E) (wT R (m0 em (iP D Z.s))) v s' r9 w9->cE X nt ⟨eJ o.dst v Z.t,s'⟩ (a.put o.dst u) w':=by
  intro w' Lr Le' rr bs gs Lg u D R r9 w9 hD99 hmD hDm hmsD hpkD hl hnd' hLr hown hbox hstay hRL hRsub hRD hRok h
  obtain⟨v0,s5,r11,w11,r12,w12,k5,h⟩:=cB h
  let S':Nat->Prop:=fun b=>((Fz X w N Z.s b∨((sE rr ys||bs.any V4)=true/\∃id∈pk,b∈N id))∨b∈mA.flatMap N++(ms.map fun m=>m.flatMap N).flatten∨w.heap.size<=b)/\b<w'.heap.size/\b∉(em.map (j0 J)).map (·.1)++(Lr++Lg)++Le'.flatten
  have hown2:DL S' w' (kO (em.map (j0 J))) (iF ys) rr u Lr/\(∀(j:Nat) p cs L,(em.map (j0 J))[j]?=some p->ys[j]?=some cs->Le'[j]?=some L->F8 S' w' (kO (em.map (j0 J))) (iF ys) p cs L):=by
   cases H:(sE rr ys||bs.any V4)with
   | true=>
    have e:S'=fun b=>(S1 b∨b∈mA.flatMap N++(ms.map fun m=>m.flatMap N).flatten∨w.heap.size<=b)/\b<w'.heap.size/\b∉(em.map (j0 J)).map (·.1)++(Lr++Lg)++Le'.flatten:=by
     funext b
     simp only[S',S1,H,true_and]
    rw[e]
    exact⟨hown,hbox⟩
   | false=>
    rw[bL]at H
    have H:=H.1
    unfold sE at H
    rw[bL]at H
    refine⟨aHp H.1 hown,fun j p cs L h1 h2 h3=> ?_⟩
    obtain⟨cur,E0,us0,c1,c2,c3,c4⟩:=hbox j p cs L h1 h2 h3
    refine⟨cur,E0,us0,c1,c2,c3,bZ.imp (B:=V4) (fun p u L hb h=>JF hb h) ?_ c4⟩
    have:=List.any_eq_false.1 H.2 cs (tF h2)
    simpa using this
  have hRm:∀id∈R.map (·.1),id∈mA:=fun id h=>hRsub.mem h
  have hRok2:=hRok S' (fun b hb=>hb.2.1) (fun H b hb=>by simp only[S',H,true_and];exact hb)
  have hD:∀id∈D,99<=id/\∃ver blk k l,Z.s id=⟨ver,some blk⟩/\l3 blk k l:=fun id hid=>by
   refine⟨hD99 id hid,?_⟩
   rcases hDm id hid with h|⟨_,h⟩
   ·exact(a2.app b2) id h
   ·exact a3 id h
  have hDx:∀id,id∈em.map (·.1)->id∉D/\id∉R.map (·.1):=fun id h1=>by
   obtain⟨⟨i,ver,j,n⟩,hm,rfl⟩:=List.mem_map.1 h1
   obtain⟨cs,e,_⟩:=b3 _ _ _ _ hm
   refine⟨fun h2=> ?_,fun h2=> ?_⟩
   ·obtain⟨_,ver',blk,k,l,e',hw⟩:=hD _ h2
    rw[e]at e';cases e';cases hw
   ·obtain⟨ver',blk,k,l,e',hw⟩:=a2 _ (hRm _ h2)
    rw[e]at e';cases e';cases hw
  have hσl:∀id bl,(wT R (m0 em (iP D Z.s)) id).blk=some bl->id∉D/\∃b,(Z.s id).blk=some b:=fun id bl hb=>by
   by_cases hr:id∈R.map (·.1)
   ·obtain⟨ver',blk,k,l,e',_⟩:=a2 _ (hRm _ hr)
    exact⟨hRD id hr,blk,by rw[e']⟩
   rw[vO hr]at hb
   by_cases hx:id∈em.map (·.1)
   ·exact⟨(hDx id hx).1,Y id (bJ _ hx)⟩
   ·rw[sK hx]at hb
    by_cases hd2:id∈D
    ·rw[VV hd2]at hb;cases hb
    ·rw[sG hd2]at hb;exact⟨hd2,bl,hb⟩
  have hNl:∀id bl x,(wT R (m0 em (iP D Z.s)) id).blk=some bl->x∈ST R N id->x∈Lg∨(id∉R.map (·.1)/\x∈N id):=fun id bl x hb hx=>by
   by_cases hr:id∈R.map (·.1)
   ·obtain⟨⟨i,b0,L⟩,hm,rfl⟩:=List.mem_map.1 hr
    have hn:(R.map (·.1)).Nodup:=hRsub.nodup (List.nodup_append.1 (List.nodup_append.1 hnd).2.1).1
    rw[rI hn hm]at hx
    exact .inl (by rw[<-hRL];exact List.mem_flatMap.2 ⟨_,hm,hx⟩)
   ·rw[AZ hr]at hx
    exact .inr ⟨hr,hx⟩
  have hSS:∀b,Fz X w N Z.s b->S' b:=fun b hb=>by
   have h0:=hS1 b (.inl hb)
   refine⟨.inl (.inl hb),eQ hb.1 hstay.size,fun hm=> ?_⟩
   rw[aQ]at hm
   rcases List.mem_append.1 hm with hm|hm
   ·rw[QO z b3]at hm
    exact h0.2 (by rw[cH];exact bJ _ hm)
   ·rcases(hLr b hm).1 with h1|h1
    ·rw[hLe]at h1
     exact h0.2 (by rw[cH];exact bG _ h1)
    ·have:=hb.1;omega
  have hdisj:∀x,(x∈mA.flatMap N++(ms.map fun m=>m.flatMap N).flatten∨w.heap.size<=x)->∀id bl,(wT R (m0 em (iP D Z.s)) id).blk=some bl->id∉R.map (·.1)->x∉N id:=fun x hx id bl hb hr hxn=>by
   obtain⟨h3,bl0,h4⟩:=hσl id bl hb
   rcases hx with h1|h1
   ·rw[hLe]at h1
    obtain⟨id',hid',W⟩:=List.mem_flatMap.1 h1
    obtain⟨ver,blk,k,l,e,_⟩:=(a2.app b2) id' hid'
    refine z.disj id' id _ _ (by rw[e]) h4 (fun e2=> ?_) x W hxn
    subst e2
    rcases List.mem_append.1 hid' with hid'|hid'
    ·exact(hmD _ hid').elim h3 hr
    ·exact h3 (hmsD _ hid')
   ·have:=z.lt id bl0 h4 x hxn;omega
  have hSf:∀b,S' b->Fz X w' (ST R N) (wT R (m0 em (iP D Z.s))) b:=by
   rintro b ⟨hb,hlt,hnm⟩
   refine⟨hlt,?_,?_⟩
   ·rintro⟨id,bl,h1,h2⟩
    rcases hNl id bl b h1 h2 with h2|⟨hnr,h2⟩
    ·exact hnm (bJ _ (bG _ (bG _ h2)))
    obtain⟨h3,bl0,h4⟩:=hσl id bl h1
    rcases hb with (hb|⟨H,id',hid',hb⟩)|hb
    ·exact hb.2.1 ⟨id,bl0,h4,h2⟩
    ·obtain⟨ver,blk,k,l,e,_⟩:=a3 id' hid'
     have hne:id'≠id:=fun e2=>h3 (by rw[<-e2];exact hpkD H id' hid')
     exact z.disj id' id _ _ (by rw[e]) h4 hne b hb h2
    ·exact hdisj b hb id bl h1 hnr h2
   ·rcases hb with (hb|⟨H,id',hid',hb⟩)|hb|hb
    ·exact hb.2.2
    ·obtain⟨ver,blk,k,l,e,_⟩:=a3 id' hid'
     exact .inr (z.new id' _ (by rw[e]) b hb)
    ·rw[hLe]at hb
     obtain⟨id',hid',W⟩:=List.mem_flatMap.1 hb
     obtain⟨ver,blk,k,l,e,_⟩:=(a2.app b2) id' hid'
     exact .inr (z.new id' _ (by rw[e]) b W)
    ·exact .inr (.inr (aX z.frm.size hb))
  have hsub:∀x∈Lg,x∈(Lr++Lg)++Le'.flatten:=fun x hx=>bJ _ (bG _ hx)
  rw[aQ]at hnd'
  obtain⟨n1,n2,n3⟩:=List.nodup_append.1 hnd'
  obtain⟨n4,n5,n6⟩:=List.nodup_append.1 n2
  obtain⟨n7,n8,n9⟩:=List.nodup_append.1 n4
  obtain⟨T1,st1⟩:=aKJ (D:=D) (M:=mA++ms.flatten) (R:=R) z b3 (fun id hid=>(a2.app b2) id hid) hD (fun id hid=>by
   rcases List.mem_append.1 hid with h|h
   ·exact hmD id h
   ·exact .inl (hmsD id h)) hemnd hRok2 (hRsub.nodup (List.nodup_append.1 (List.nodup_append.1 hnd).2.1).1) (fun id hid=>⟨hRD id hid,fun h=>(hDx id h).2 hid⟩)
   (fun id b L hm x hx=>by
    have:=hLr x (hsub x (by rw[<-hRL];exact List.mem_flatMap.2 ⟨_,hm,hx⟩))
    rw[hLe]at this
    exact this.1.imp (fun h=>h) fun h=>⟨h,this.2⟩) (by rw[hRL];exact n8)
   (fun x hx id hid hxn=>by
    rw[hRL]at hx
    have h0:x∈(em.map (j0 J)).map (·.1):=by
     rw[QO z b3];exact List.mem_flatMap.2 ⟨id,hid,hxn⟩
    exact n3 x h0 x (bJ _ (bG _ hx)) rfl)
   hstay hown2.2 hyl (by rw[hl,b1]) hyn hSS hSf
  have hPend:rR X S' (wT R (m0 em (iP D Z.s))) (ST R N) (Lr++Le'.flatten):=by
   have up:∀x∈Lr++Le'.flatten,x∈(Lr++Lg)++Le'.flatten:=fun x hx=>by
    rcases List.mem_append.1 hx with hx|hx
    ·exact bJ _ (bJ _ hx)
    ·exact bG _ hx
   refine⟨?_,fun x hx hSx=>hSx.2.2 (by rw[aQ];exact bG _ (up x hx)),fun x hx=> ?_,fun id bl hb x hx hxn=> ?_⟩
   ·exact List.nodup_append.2 ⟨n7,n5,fun x hx y hy=>n6 x (bJ _ hx) y hy⟩
   ·rcases(hLr x (up x hx)).1 with h1|h1
    ·rw[hLe]at h1
     obtain⟨id',hid',W⟩:=List.mem_flatMap.1 h1
     obtain⟨ver,blk,k,l,e,_⟩:=(a2.app b2) id' hid'
     exact z.new id' _ (by rw[e]) x W
    ·exact .inr (aX z.frm.size h1)
   ·rcases hNl id bl x hb hxn with h2|⟨hnr,h2⟩
    ·rcases List.mem_append.1 hx with hx|hx
     ·exact n9 x hx x h2 rfl
     ·exact n6 x (bG _ h2) x hx rfl
    ·exact hdisj x (hLr x (up x hx)).1 id bl hb hnr h2
  obtain⟨J2,N2,st2,T2,v2,hh2⟩:=aDn st1 (by unfold NG;split<;>omega) hown2.1 hPend.left k5
  have hptr:∀(e:Nat) (x:Nat×Nat×Nat×Nat) (p:Nat×Nat),em[e]?=some x->(em.map (j0 J))[e]?=some p->uE J2 s5 x.1 x.2.1 0 x.2.2.1 (.pointer (some ⟨p.1,p.2,none⟩)):=fun e x p he hp=>by
   obtain⟨i,ver,j,n⟩:=x
   obtain⟨cs,e1,_⟩:=b3 i ver j n (tF he)
   obtain⟨b,off,cur,E0,q1,q2,_⟩:=z.blk i _ (by rw[e1])
   refine T2.ptr (T1.ptr ⟨by rw[e1];exact bB _,.inl ⟨_,rfl⟩,fun blk hb=> ?_⟩)
   rw[e1]at hb
   cases hb
   rw[bX,he]at hp
   simp[j0,q1]at hp
   subst hp
   exact⟨b,off,q1,rfl⟩
  obtain⟨J3,N3,s6,r',wr',st3,T3,hr⟩:=O1 (fun e x u he hp=>by
   have hlt:e<em.length:=(iR.1 he).1
   have hy:ys[e]?=some (ys[e]'(by omega)):=iD (by omega)
   obtain⟨_,_,hp⟩:=hp
   obtain⟨b,off,q1,q2⟩:=hp (.box (ys[e]'(by omega))) (by unfold iF;rw[hy])
   simp only[eY]at q2
   rw[q2]
   exact hptr e x (b,off) he q1) st2 (by unfold NG;split<;>omega) (by simp) (by rw[hl,b1]) hown2.2 (hPend.right hh2) hptr h
  obtain⟨rfl,rfl,-,-⟩:=hr
  obtain⟨st4,T4⟩:=st3.close
  exact cE.put hs hd st4 (T4.vc (T3.vc v2))
 have key:∀u w',(∃(Lr:List Nat) (Le':List (List Nat)),Le'.length=xs.length/\((em.map (j0 J)).map (·.1)++Lr++Le'.flatten).Nodup/\
   (∀b∈Lr++Le'.flatten,(b∈mA.flatMap N++(ms.map fun m=>m.flatMap N).flatten∨w.heap.size<=b)/\b<w'.heap.size)/\
   OW (fun b=>(S1 b∨b∈mA.flatMap N++(ms.map fun m=>m.flatMap N).flatten∨w.heap.size<=b)/\b<w'.heap.size/\b∉(em.map (j0 J)).map (·.1)++Lr++Le'.flatten) w' (kO (em.map (j0 J))) (iF ys) (gS qs us) r0 u Lr/\
   (∀(j:Nat) p cs L,(em.map (j0 J))[j]?=some p->ys[j]?=some cs->Le'[j]?=some L->F8 (fun b=>(S1 b∨b∈mA.flatMap N++(ms.map fun m=>m.flatMap N).flatten∨w.heap.size<=b)/\b<w'.heap.size/\b∉(em.map (j0 J)).map (·.1)++Lr++Le'.flatten) w' (kO (em.map (j0 J))) (iF ys) p cs L)/\
   aEL w w' ((em.map (·.1)++(mA++ms.flatten)).flatMap N) (em.map (j0 J)) (em.map (·.2.2.2)))->cE X nt ⟨eJ o.dst v Z.t,s'⟩ (a.put o.dst u) w':=by
  rintro u w' ⟨Lr,Le',hl,hnd',hLr,hown,hbox,hstay⟩
  simp only at h
  have hmAnd:mA.Nodup:=(List.nodup_append.1 (List.nodup_append.1 hnd).2.1).1
  have all99:∀{D:List Nat},D.all (Nat.ble 99)=true->∀id∈D,99<=id:=fun h id hid=>bY (List.all_eq_true.1 h id hid)
  cases hln:ln f with
  | false=>
   rw[hln]at h
   split at h
   ·rename_i e1 e2 e3;cases e3
   ·rename_i e1 e2 e3
    have hgb:gbR r0=r0/\gbB r0=[]/\OW (fun b=>(S1 b∨b∈mA.flatMap N++(ms.map fun m=>m.flatMap N).flatten∨w.heap.size<=b)/\b<w'.heap.size/\b∉(em.map (j0 J)).map (·.1)++Lr++Le'.flatten) w' (kO (em.map (j0 J))) (iF ys) (gS qs us) r0 u Lr=DL (fun b=>(S1 b∨b∈mA.flatMap N++(ms.map fun m=>m.flatMap N).flatten∨w.heap.size<=b)/\b<w'.heap.size/\b∉(em.map (j0 J)).map (·.1)++Lr++Le'.flatten) w' (kO (em.map (j0 J))) (iF ys) r0 u Lr:=by
     cases r0<;>first|exact⟨rfl,rfl,rfl⟩ | cases e2
    obtain⟨g1,g2,g3⟩:=hgb
    rw[g3]at hown
    rw[g1,g2]at e1 h
    obtain⟨r9,w9,h⟩:=sF h
    obtain⟨r10,w10,h⟩:=LL h
    refine core w' Lr Le' r0 [] [] [] u _ [] (all99 e1) (fun id hid=> .inl (by simp[hid])) (fun id hid=> ?_) (fun id hid=>by simp[List.mem_flatten.1 hid]) (fun H id hid=>by simp only[H];simp[hid]) hl (by rw[bO];exact hnd') (by rw[bO];exact hLr) (by rw[bO];exact hown) (by rw[bO];exact hbox) hstay rfl (j5 _) (fun _ h=>by cases h) (fun _ _ _ _ _ _ h=>by cases h) h
    rcases List.mem_append.1 hid with h1|h1
    ·exact .inl h1
    ·split at h1
     ·rename_i hq;exact .inr ⟨hq,h1⟩
     ·cases h1
   ·exact h.elim
  | true=>
   rw[hln]at h
   split at h
   ·rename_i e1 e2 e3
    cases r0<;>try (cases e2;done)
    rename_i r1 back
    obtain⟨L1,L2,rfl,ho1,ho2⟩:=hown
    simp only[gbR,gbB]at e1 h
    obtain⟨r9,w9,h⟩:=sF h
    obtain⟨r10,w10,h⟩:=LL h
    have hxD:∀id∈mA,id∉([]++ms.flatten++(match sE r1 ys||back.any V4 with
     | true=>pk
     | false=> [])):=fun id hid hm=>by
     rw[cV]at hm
     rcases List.mem_append.1 hm with hm|hm
     ·exact(List.nodup_append.1 (List.nodup_append.1 hnd).2.1).2.2 id hid id hm rfl
     ·split at hm
      ·exact hxpk id hm (bG _ (bJ _ hid))
      ·cases hm
    let QQ:PV->Value->List Nat->Prop:=fun p u L=>∀S':Nat->Prop,((sE r1 ys||back.any V4)=true->∀b,((S1 b∨b∈mA.flatMap N++(ms.map fun m=>m.flatMap N).flatten∨w.heap.size<=b)/\b<w'.heap.size/\b∉(em.map (j0 J)).map (·.1)++(L1++L2)++Le'.flatten)->S' b)->gI S' w' (kO (em.map (j0 J))) (iF ys) p u L
    have ho3:bZ QQ back (gS qs us) L2:=by
     cases H:(sE r1 ys||back.any V4)with
     | true=>exact bZ.mono (fun p u L _ h S' hS'=>gI.up h (hS' H)) ho2
     | false=>
      rw[bL]at H
      exact bZ.imp (B:=V4) (fun p u L hb h S' _=>JF hb h) H.2 ho2
    obtain⟨R,r',wr',q1,q2,q3,q4⟩:=VK h ho3 hmAnd
    have hsame:∀id∈mA,m0 em (iP ([]++ms.flatten++(match sE r1 ys||back.any V4 with
     | true=>pk
     | false=> [])) Z.s) id=Z.s id:=fun id hid=>by
     rw[sK (fun hm=>(List.nodup_append.1 hnd).2.2 id hm id (bJ _ hid) rfl),sG (hxD id hid)]
    have hren:∀(S':Nat->Prop),((sE r1 ys||back.any V4)=true->∀b,((S1 b∨b∈mA.flatMap N++(ms.map fun m=>m.flatMap N).flatten∨w.heap.size<=b)/\b<w'.heap.size/\b∉(em.map (j0 J)).map (·.1)++(L1++L2)++Le'.flatten)->S' b)->bC (DM (gI S' w' (kO (em.map (j0 J))) (iF ys)) Z.s) R (gS qs us):=fun S' hS'=>by
     have key:∀(R:Ren) (gs:List Value),(∀x∈R,x.1∈mA)->bC (DM QQ (m0 em (iP ([]++ms.flatten++(match sE r1 ys||back.any V4 with
      | true=>pk
      | false=> [])) Z.s))) R gs->bC (DM (gI S' w' (kO (em.map (j0 J))) (iF ys)) Z.s) R gs:=by
      intro R
      induction R with
      | nil=>intro gs _ h;cases gs<;>exact h
      | cons x R ih=>
       intro gs hx h
       cases gs with
       | nil=>exact h
       | cons g gs=>
        refine⟨?_,ih gs (fun y hy=>hx y (aI _ hy)) h.2⟩
        have h0:=h.1
        unfold DM at h0⊢
        rw[hsame _ (hx x (aN ..))]at h0
        rcases h0 with⟨a1,a2,a3,a4,a5,a6,a7⟩ |⟨a1,a2,a3,a4,a5,a6,a7⟩
        ·exact .inl ⟨a1,a2,a3,a4,a5,a6,a7 S' hS'⟩
        ·exact .inr ⟨a1,a2,a3,a4,a5,a6,a7 S' hS'⟩
     exact key _ _ (fun x hx=>by rw[<-q1];exact List.mem_map.2 ⟨x,hx,rfl⟩) q4
    refine core w' L1 Le' r1 back (gS qs us) L2 u _ R (all99 e1) (fun id hid=> .inr (by rw[q1];exact hid)) (fun id hid=> ?_) (fun id hid=>by simp[List.mem_flatten.1 hid]) (fun H id hid=>by simp only[H];simp[hid]) hl hnd' hLr ho1 hbox hstay q3 (by rw[q1];exact List.Sublist.refl _) (fun id hid=>by rw[q1]at hid;exact hxD id hid) (fun S' _ hS'=>aLc (t:=Z.t) z a4 (hren S' hS') q1) q2
    rw[cV]at hid
    rcases List.mem_append.1 hid with h1|h1
    ·exact .inl (bG _ h1)
    ·split at h1
     ·rename_i hq;exact .inr ⟨hq,h1⟩
     ·cases h1
   ·rename_i e1 e2 e3;cases e3
   ·exact h.elim
 unfold Oper.wp
 rw[hexec]
 unfold jQ at I
 split at I
 ·rename_i u w' hrun
  rw[hrun]
  obtain⟨u',Lr,Le',e,h1,h2,h3,h4,h5,h6⟩:=I
  cases e
  exact key _ _ ⟨Lr,Le',h1,h2,h3,h4,h5,h6⟩
 ·rename_i f' ys' w' hrun
  rw[hrun]
  rw[Oper.upon_enter]
  refine Calls.mono I fun e w'' hR=> ?_
  obtain⟨u',Lr,Le',rfl,h1,h2,h3,h4,h5,h6⟩:=hR
  exact key _ _ ⟨Lr,Le',h1,h2,h3,h4,h5,h6⟩
 ·exact I.elim
end
open Go.RowKit
def aIO (s:cU):PV->Bool
 | .ptr e 0 0 0=>match s e with
  | ⟨0,some (.box _)⟩=>true
  | _=>false
 | _=>false
def O8 (s:cU):PV->Option (PV×List Nat×List Nat)
 | .fn f (c::cs)=>(match(c::cs).all (aIO s)with
  | true=>some (.fn f (c::cs),[],[])
  | false=>none)
 | p=>iC s p
def E7 (s:cU):List PV->Option (List PV×List Nat×List Nat)
 | []=>some ([],[],[])
 | p::ps=>match O8 s p,E7 s ps with
  | some (q,a,b),some (qs,c,d)=>some (q::qs,a++c,b++d)
  | _,_=>none
def E6 (s:cU):PV->Option (PV×List Nat×List Nat)
 | .agg cs=>match E7 s cs with
  | some (qs,a,b)=>some (.agg qs,a,b)
  | none=>none
 | p=>iC s p
def tH (s:cU):List PV->Option (List PV×List Nat×List Nat)
 | []=>some ([],[],[])
 | p::ps=>match E6 s p,tH s ps with
  | some (q,a,b),some (qs,c,d)=>some (q::qs,a++c,b++d)
  | _,_=>none
section
variable {X:mM} {nt:Nat} {Z:gU} {w:World}
def HxK (Z:gU) (J J':Nat->Option (Nat×Nat)) (σ':cU):Prop:=∀(e:Nat) cs u,Z.s e=⟨0,some (.box cs)⟩->uE J Z.s e 0 0 0 u->uE J' σ' e 0 0 0 u
theorem aET (z:HxK Z J J' σ') (h:aIO Z.s p=true) (D:DB S w J Z.s p u):DB S' w J' σ' p u:=by
 unfold aIO at h
 split at h
 ·rename_i e
  split at h
  ·rename_i cs H
   exact z e cs u H D
  ·cases h
 ·cases h
theorem O6 {J J':Nat->Option (Nat×Nat)} {σ':cU} (z:HxK Z J J' σ') {S S':Nat->Prop}:∀{ps:List PV} {us:List Value},ps.all (aIO Z.s)=true->bC (DB S w J Z.s) ps us->bC (DB S' w J' σ') ps us
 | [],us,_,h=>by cases us<;>exact h
 | p::ps,[],_,h=>h.elim
 | p::ps,u::us,e,h=>by
  rw[cI,aB]at e
  exact⟨aET z e.1 h.1,O6 z e.2 h.2⟩
theorem aAv {tm:Array Value} (h:St X Z w tm J N) (H:HxK Z J J' σ') (I:∀b,Fz X w N Z.s b->S' b) (D:e9 (Fz X w N Z.s) w J Z.s p u) (z:O8 Z.s p=some (q,A,B))
  (M:∀id∈B,∀b∈N id,S' b):(∀id∈A,∃blk,(Z.s id).blk=some blk)/\gI S' w J' σ' q u (A.map N).flatten:=by
 unfold O8 at z
 split at z
 ·split at z
  ·rename_i R
   cases z
   obtain⟨us,e,D⟩:=D
   exact⟨by simp,rfl,us,e,O6 H R D⟩
  ·cases z
 ·exact tI h I D z M
theorem I2 {J:Nat->Option (Nat×Nat)} {N:Nat->List Nat} {tm:Array Value} {S':Nat->Prop} {J':Nat->Option (Nat×Nat)} {σ':cU} (h:St X Z w tm J N) (z:HxK Z J J' σ') (D:∀b,Fz X w N Z.s b->S' b) :
  ∀{ps qs:List PV} {us:List Value} {A B:List Nat},bC (e9 (Fz X w N Z.s) w J Z.s) ps us->E7 Z.s ps=some (qs,A,B)->(∀id∈B,∀b∈N id,S' b)->(∀id∈A,∃blk,(Z.s id).blk=some blk)/\bZ (gI S' w J' σ') qs us (A.map N).flatten
 | [],qs,[],A,B,_,e,_=>by cases e;exact⟨by simp,rfl⟩
 | p::ps,qs,u::us,A,B,⟨I,M⟩,e,H=>by
  unfold E7 at e
  split at e
  ·rename_i q a b qs' c d R W
   cases e
   obtain⟨Y,k2⟩:=aAv h z D I R (fun id hid=>H id (List.mem_append.2 (.inl hid)))
   obtain⟨k3,k4⟩:=I2 h z D M W (fun id hid=>H id (List.mem_append.2 (.inr hid)))
   refine⟨fun id hid=>(List.mem_append.1 hid).elim (Y id) (k3 id),_,_,?_,k2,k4⟩
   rw[e8,List.flatten_append]
  ·cases e
 | [],_,_::_,_,_,h,_,_=>h.elim
 | _::_,_,[],_,_,h,_,_=>h.elim
theorem XI {tm:Array Value} (h:St X Z w tm J N) (W:HxK Z J J' σ') (I:∀b,Fz X w N Z.s b->S' b) (D:gM (Fz X w N Z.s) w J Z.s p u) (z:E6 Z.s p=some (q,A,B))
  (M:∀id∈B,∀b∈N id,S' b):(∀id∈A,∃blk,(Z.s id).blk=some blk)/\kN S' w J' σ' q u (A.map N).flatten:=by
 by_cases R:∃cs,p= .agg cs
 ·obtain⟨cs,rfl⟩:=R
  obtain⟨us,rfl,D⟩:=D
  unfold E6 at z
  split at z
  ·rename_i cs' e
   cases e
   split at z
   ·rename_i qs a b e
    cases z
    obtain⟨Y,k2⟩:=I2 h W I D e M
    exact⟨Y,us,rfl,k2⟩
   ·cases z
  ·rename_i H;exact absurd rfl (H cs)
 ·refine aAu h I D ?_ M
  rw[show XH Z.s p=E6 Z.s p from by cases p<;>first|rfl|exact absurd ⟨_,rfl⟩ R]
  exact z
theorem GJ {J:Nat->Option (Nat×Nat)} {N:Nat->List Nat} {tm:Array Value} {S':Nat->Prop} {J':Nat->Option (Nat×Nat)} {σ':cU} (h:St X Z w tm J N) (z:HxK Z J J' σ') (D:∀b,Fz X w N Z.s b->S' b) :
  ∀{ps qs:List PV} {us:List Value} {A B:List Nat},bC (gM (Fz X w N Z.s) w J Z.s) ps us->tH Z.s ps=some (qs,A,B)->(∀id∈B,∀b∈N id,S' b)->(∀id∈A,∃blk,(Z.s id).blk=some blk)/\bZ (kN S' w J' σ') qs us (A.map N).flatten
 | [],qs,[],A,B,_,e,_=>by cases e;exact⟨by simp,rfl⟩
 | p::ps,qs,u::us,A,B,⟨I,M⟩,e,H=>by
  unfold tH at e
  split at e
  ·rename_i q a b qs' c d R W
   cases e
   obtain⟨Y,k2⟩:=XI h z D I R (fun id hid=>H id (List.mem_append.2 (.inl hid)))
   obtain⟨k3,k4⟩:=GJ h z D M W (fun id hid=>H id (List.mem_append.2 (.inr hid)))
   refine⟨fun id hid=>(List.mem_append.1 hid).elim (Y id) (k3 id),_,_,?_,k2,k4⟩
   rw[e8,List.flatten_append]
  ·cases e
 | [],_,_::_,_,_,h,_,_=>h.elim
 | _::_,_,[],_,_,h,_,_=>h.elim
end
def C2 (s:cU) (l:List Nat):Prop:=∀id∈l,∀cs,(s id).blk≠some (.box cs)
theorem C2.app {a b:List Nat} (e:C2 s a) (z:C2 s b):C2 s (a++b):=fun id hid=>(List.mem_append.1 hid).elim (e id) (z id)
theorem VS (h:iC s p=some (q,A,B)):C2 s A/\C2 s B:=by
 have nl:C2 s []:=fun _ h=>by cases h
 have nb:∀{id:Nat} {v:Nat} {blk:oE},s id=⟨v,some blk⟩->(∀cs,blk≠ .box cs)->C2 s [id]:=fun z D i H cs e=>by
  rw[List.mem_singleton.1 H,z]at e;cases e;exact D _ rfl
 unfold iC at h
 repeat' split at h
 all_goals first
  | (cases h;done)
  | (cases h;exact⟨nl,nl⟩)
  | (rename_i z _;cases h;exact⟨nb (by assumption) (by intro _ e;cases e),nl⟩)
  | (cases h;exact⟨nb (by assumption) (by intro _ e;cases e),nl⟩)
  | (cases h;exact⟨nl,nb (by assumption) (by intro _ e;cases e)⟩)
theorem VQ {s:cU}:∀{ps qs:List PV} {A B:List Nat},mT s ps=some (qs,A,B)->C2 s A/\C2 s B
 | [],qs,A,B,h=>by cases h;exact⟨(fun _ h=>by cases h),(fun _ h=>by cases h)⟩
 | p::ps,qs,A,B,h=>by
  unfold mT at h
  split at h
  ·rename_i q a b qs' c d e z
   cases h
   obtain⟨D,H⟩:=VS e
   obtain⟨I,M⟩:=VQ z
   exact⟨D.app I,H.app M⟩
  ·cases h
def qD (s:cU) (A B:List Nat):Prop:=(lM s A/\lM s B)/\C2 s A/\C2 s B
theorem qD.nil {s:cU}:qD s [] []:=⟨⟨lM.nil,lM.nil⟩,(fun _ h=>by cases h),(fun _ h=>by cases h)⟩
theorem qD.app {s:cU} {A B C D:List Nat} (h:qD s A B) (k:qD s C D):qD s (A++C) (B++D):=⟨⟨h.1.1.app k.1.1,h.1.2.app k.1.2⟩,h.2.1.app k.2.1,h.2.2.app k.2.2⟩
theorem VR (h:iC s p=some (q,A,B)):qD s A B:=⟨MW h,VS h⟩
theorem aEV (h:O8 s p=some (q,A,B)):qD s A B:=by
 unfold O8 at h
 split at h
 ·split at h
  ·cases h;exact qD.nil
  ·cases h
 ·exact VR h
theorem O9 {s:cU}:∀{ps qs:List PV} {A B:List Nat},E7 s ps=some (qs,A,B)->qD s A B
 | [],qs,A,B,h=>by cases h;exact qD.nil
 | p::ps,qs,A,B,h=>by
  unfold E7 at h
  split at h
  ·rename_i q a b qs' c d e z
   cases h
   exact(aEV e).app (O9 z)
  ·cases h
theorem aCs (h:E6 s p=some (q,A,B)):qD s A B:=by
 unfold E6 at h
 split at h
 ·split at h
  ·rename_i qs a b e
   cases h
   exact O9 e
  ·cases h
 ·exact VR h
theorem DV {s:cU}:∀{ps qs:List PV} {A B:List Nat},tH s ps=some (qs,A,B)->qD s A B
 | [],qs,A,B,h=>by cases h;exact qD.nil
 | p::ps,qs,A,B,h=>by
  unfold tH at h
  split at h
  ·rename_i q a b qs' c d e z
   cases h
   exact(aCs e).app (DV z)
  ·cases h
open Go.RowKit
def aHM (id:Nat):PV->PV
 | .row true k l=> .ref id 1 0 l.length true
 | .drow k l=> .ref (id+1000000000) 1 0 l.length true
 | p=>p
def JL (id:Nat) (p:PV) (s:cU):cU:=match p with
 | .row true k l=>eN s id ⟨1,some (.rowb k l)⟩
 | .drow k l=>eN s (id+1000000000) ⟨1,some (.rowd k l)⟩
 | _=>s
def R3 (id:Nat):List PV->List PV
 | []=> []
 | p::ps=>aHM id p::R3 (id+1) ps
def R2 (id:Nat):List PV->cU->cU
 | [],s=>s
 | p::ps,s=>R2 (id+1) ps (JL id p s)
def aK9 (i:Nat):PV->PV
 | .agg cs=> .agg (R3 (91000000+1000*i) cs)
 | p=>aHM (90000000+i) p
def R0 (i:Nat) (p:PV) (s:cU):cU:=match p with
 | .agg cs=>R2 (91000000+1000*i) cs s
 | p=>JL (90000000+i) p s
def aDp (i:Nat):List PV->List PV
 | []=> []
 | p::ps=>aK9 i p::aDp (i+1) ps
def R1 (i:Nat):List PV->cU->cU
 | [],s=>s
 | p::ps,s=>R1 (i+1) ps (R0 i p s)
def aJk (base e:Nat):List (List PV)->cU->cU
 | [],s=>s
 | cs::xs,s=>aJk (base+1000) (e+1) xs (eN (R2 base cs s) e ⟨0,some (.box (R3 base cs))⟩)
def tJ (exts:List (List PV)):cU:=fun j=>match exts[j]? with
 | some cs=>⟨0,some (.box (List.replicate cs.length .dead))⟩
 | none=>⟨0,none⟩
def SS:PV->Nat
 | .row _ _ l=>l.length
 | .drow _ l=>l.length
 | _=>0
def WJ:PV->List PV
 | .agg cs=>cs.filter cJ
 | p=> [p].filter cJ
def qO:List PV->List PV
 | []=> []
 | p::ps=>WJ p++qO ps
def NU (q:Nat) (p:PV):PV:=match cJ p with
 | true=> .ref q 0 0 (SS p) true
 | false=>p
def aHz (q:Nat):List PV->List PV
 | []=> []
 | p::ps=>NU q p::aHz (match cJ p with
  | true=>q+1
  | false=>q) ps
def aMu (q:Nat):PV->PV
 | .agg cs=> .agg (aHz q cs)
 | p=>NU q p
def aC9 (q:Nat):List PV->List PV
 | []=> []
 | p::ps=>aMu q p::aC9 (q+(WJ p).length) ps
def WB (q:Nat):List PV->List PV
 | []=> []
 | p::ps=> .ref q 0 0 (SS p) true::WB (q+1) ps
def aJg (p:PV):Option oE:=match p with
 | .row true k l=>some (.rowb k l)
 | .drow k l=>some (.rowd k l)
 | _=>none
def YF (ps:List PV):cU:=fun j=>match Nat.ble 50 j with
 | true=>(match ps[j-50]? with
  | some p=>⟨0,aJg p⟩
  | none=>⟨0,none⟩)
 | false=>⟨0,none⟩
def M8 (ln:Bool) (args:List PV):List PV:=match ln with
 | true=>WB 50 (qO args)
 | false=> []
def aMp (ln:Bool) (r:PV) (bT:List PV):PV:=match ln with
 | true=> .gb r bT
 | false=>r
def aA0 (ln:Bool) (args:List PV) (exts:List (List PV)):gU:=match ln with
 | true=>⟨fun i=>((aC9 50 args)[i]?).getD .un,YF (qO args)⟩
 | false=>⟨fun i=>((aDp 0 args)[i]?).getD .un,aJk 80000000 0 exts (R1 0 args (tJ exts))⟩
def aE8 (Z:gU):Nat->Nat->Option (List (List PV))
 | _,0=>some []
 | e,n+1=>match Z.s e,aE8 Z (e+1) n with
  | ⟨_,some (.box cs)⟩,some l=>some (cs::l)
  | _,_=>none
def aMA (nt:Nat) (rs:List ResultVar) (nx:Nat) (ls:List PV) (rT bT:List PV) (exts':List (List PV)):Exit->gU->Prop
 | .normal,Z| .ret,Z=>∃vs cs qs A B,aHW nt Z rs=some vs/\aE8 Z 0 nx=some cs/\tH Z.s (vs++ .agg ls::cs.map .agg)=some (qs,A,B)/\yK A=true/\I9 A B=true/\bC OT qs (rT++ .agg bT::exts'.map .agg)
 | _,_=>False
def vY:PV->Bool
 | .ref ..=>false
 | .obj _=>false
 | .agg _=>false
 | .gb _ _=>false
 | _=>true
def aAi:PV->Bool
 | .agg cs=>cs.all vY&&Nat.ble cs.length 1000
 | p=>vY p
def D3:PV->Bool
 | .agg cs=>cs.all fun p=>cJ p||yJ p
 | p=>cJ p||yJ p
def aHx (ln:Bool) (args:List PV) (nx:Nat):Bool:=match ln with
 | true=>args.all D3&&Nat.ble (qO args).length 48&&Nat.beq nx 0
 | false=>args.all aAi
section
variable {P:Program} {PC:rU} {X:mM} {nt:Nat} {Q:Exit->Act->World->Prop} {Z:gU} {a:Act} {w:World} {o:Oper} {v:PV} {t:Nat->PV} {s s':cU} {r wr:List Nat}
variable {J J0:Nat->Option (Nat×Nat)} {σ0:cU} {N:Nat->List Nat} {tm:Array Value} {S:Nat->Prop}
def IY (id n i:Nat):Prop:=(id<=i/\i<id+n)∨(id+1000000000<=i/\i<id+1000000000+n)
theorem aHN (T0:Tr S S w w J0 J σ0 s) (z:cJ p=false) (D:∀o,p≠ .obj o) (h:gI S w J0 σ0 p u L):L=[]/\e9 S w J s p u:=by
 cases p with
 | row own k l=>cases own with
  | true=>simp[cJ]at z
  | false=>exact⟨h.1,T0.vs h.2⟩
 | obj o=>exact absurd rfl (D o)
 | drow k l=>simp[cJ]at z
 | v x=>exact⟨h.1,T0.vs (p:= .v x) h.2⟩
 | nil=>exact⟨h.1,T0.vs (p:= .nil) h.2⟩
 | ref a b c d e=>exact⟨h.1,T0.vs (p:= .ref a b c d e) h.2⟩
 | ptr a b c d=>exact⟨h.1,T0.vs (p:= .ptr a b c d) h.2⟩
 | eptr k l i j=>exact⟨h.1,T0.vs (p:= .eptr k l i j) h.2⟩
 | agg cs=>exact⟨h.1,T0.vs (p:= .agg cs) h.2⟩
 | tup cs=>exact⟨h.1,T0.vs (p:= .tup cs) h.2⟩
 | fn f caps=>exact⟨h.1,T0.vs (p:= .fn f caps) h.2⟩
 | un=>exact⟨h.1,T0.vs (p:= .un) h.2⟩
 | gb r b=>exact⟨h.1,T0.vs (p:= .gb r b) h.2⟩
 | dead=>exact⟨h.1,trivial⟩
theorem aCp (h:vY p=true):∀o,p≠ .obj o:=fun o e=>by subst e;cases h
theorem JJ (h:cJ p=true):(∃k l,p= .row true k l)∨∃k l,p= .drow k l:=by
 cases p<;>try (simp[cJ]at h;done)
 case row own k l=>
  cases own
  ·simp[cJ]at h
  ·exact .inl ⟨_,_,rfl⟩
 case drow k l=>exact .inr ⟨_,_,rfl⟩
theorem WH {id:Nat} (h:lN X S ⟨t,s⟩ w tm J N) (hid:99<=id) (hz:∀i,IY id 1 i->s i=⟨0,none⟩) (ha:vY p=true) (W:gI S w J0 σ0 p u L) (T0:Tr S S w w J0 J σ0 s) (H:rR X S s N L) :
  ∃J' N',lN X S ⟨t,JL id p s⟩ w tm J' N'/\Tr S S w w J J' s (JL id p s)/\e9 S w J' (JL id p s) (aHM id p) u/\oM s N (JL id p s) N' L/\(∀i,¬IY id 1 i->JL id p s i=s i/\J' i=J i):=by
 have hh:∀i blk,oM s N (eN s i ⟨1,some blk⟩) (eN N i L) L:=fun j blk i b hb x Y=>by
  by_cases R:i=j
  ·subst R;rw[aD]at Y;exact .inl Y
  ·rw[bU _ _ R]at Y hb;exact .inr ⟨b,hb,Y⟩
 by_cases z:cJ p=true
 ·rcases JJ z with⟨k,l,rfl⟩ |⟨k,l,rfl⟩
  ·have I:s id=⟨0,none⟩:=hz id (.inl ⟨bB _,by omega⟩)
   obtain⟨pl,M,T1,v1⟩:=lN.open (Z:=⟨t,s⟩) h hid (ver:=1) (by show(s id).ver<1;rw[I];decide) W H.ns H.new H.dj
   exact⟨_,_,M,T1,v1,hh _ _,fun i R=>by
    have D:i≠id:=fun e=>R (.inl (by omega))
    exact⟨bU _ _ D,bU _ _ D⟩⟩
  ·have I:s (id+1000000000)=⟨0,none⟩:=hz _ (.inr ⟨bB _,by omega⟩)
   obtain⟨pl,M,T1,v1⟩:=lN.openD (Z:=⟨t,s⟩) h (id:=id+1000000000) (by omega) (ver:=1) (by show(s (id+1000000000)).ver<1;rw[I];decide) W (rQ.lts W) H.nd H.ns H.new H.dj
   exact⟨_,_,M,T1,v1,hh _ _,fun i R=>by
    have D:i≠id+1000000000:=fun e=>R (.inr (by omega))
    exact⟨bU _ _ D,bU _ _ D⟩⟩
 ·replace z:cJ p=false:=by simpa using z
  obtain⟨rfl,hv⟩:=aHN T0 z (aCp ha) W
  have e1:JL id p s=s:=by
   cases p<;>try rfl
   case row own k l=>cases own<;>first|rfl|simp[cJ]at z
   case drow k l=>simp[cJ]at z
  have e2:aHM id p=p:=by
   cases p<;>try rfl
   case row own k l=>cases own<;>first|rfl|simp[cJ]at z
   case drow k l=>simp[cJ]at z
  rw[e1,e2]
  exact⟨J,N,h,Tr.refl,hv,oM.refl,fun _ _=>⟨rfl,rfl⟩⟩
theorem R4 {J0:Nat->Option (Nat×Nat)} {σ0:cU}:∀{ps:List PV} {us:List Value} {id:Nat} {L:List Nat} {J:Nat->Option (Nat×Nat)} {N:Nat->List Nat} {s:cU},lN X S ⟨t,s⟩ w tm J N->99<=id->id+ps.length<=1000000000->(∀i,IY id ps.length i->s i=⟨0,none⟩)->(∀p∈ps,vY p=true)->
  bZ (gI S w J0 σ0) ps us L->Tr S S w w J0 J σ0 s->rR X S s N L->
  ∃J' N',lN X S ⟨t,R2 id ps s⟩ w tm J' N'/\Tr S S w w J J' s (R2 id ps s)/\bC (e9 S w J' (R2 id ps s)) (R3 id ps) us/\oM s N (R2 id ps s) N' L/\(∀i,¬IY id ps.length i->R2 id ps s i=s i/\J' i=J i)
 | [],[],id,L,J,N,s,h,hid,hm,I,M,ho,T0,z=>⟨J,N,h,Tr.refl,trivial,oM.refl,fun _ _=>⟨rfl,rfl⟩⟩
 | p::ps,u::us,id,L,J,N,s,h,hid,hm,I,M,⟨L1,L2,e,h1,h2⟩,T0,z=>by
  subst e
  have hl:(p::ps).length=ps.length+1:=rfl
  obtain⟨J1,N1,R,T1,v1,D,H⟩:=WH h hid (fun i hi=>I i (by unfold IY at *;omega)) (M p (aN ..)) h1 T0 z.left
  obtain⟨J',N',W,T2,v2,Y,hk⟩:=R4 (id:=id+1) R (by omega) (by omega) (fun i hi=>by
   rw[(H i (by unfold IY at *;omega)).1];exact I i (by unfold IY at *;omega)) (fun p z=>M p (aI _ z)) h2 (T0.trans T1) (z.right D)
  refine⟨J',N',W,T1.trans T2,⟨T2.vs v1,v2⟩,D.app Y,fun i hi=> ?_⟩
  obtain⟨q1,q2⟩:=hk i (by unfold IY at *;omega)
  obtain⟨q3,q4⟩:=H i (by unfold IY at *;omega)
  exact⟨q1.trans q3,q2.trans q4⟩
 | [],_::_,_,_,_,_,_,_,_,_,_,_,h,_,_=>h.elim
 | _::_,[],_,_,_,_,_,_,_,_,_,_,h,_,_=>h.elim
theorem WI {J0:Nat->Option (Nat×Nat)} {σ0:cU}:∀{xs:List (List PV)} {locs:List (Nat×Nat)} {Le:List (List Nat)} {base e:Nat} {J:Nat->Option (Nat×Nat)} {N:Nat->List Nat} {s:cU},lN X S ⟨t,s⟩ w tm J N->e+xs.length<=49->99<=base->base+1000*xs.length<=1000000000->locs.length=xs.length->Le.length=xs.length->(∀cs∈xs,cs.length<=1000)->
  (∀i,IY base (1000*xs.length) i->s i=⟨0,none⟩)->(∀(i:Nat) cs,xs[i]?=some cs->s (e+i)=⟨0,some (.box (List.replicate cs.length .dead))⟩)->(∀(i:Nat) p,locs[i]?=some p->J (e+i)=some p)->
  (∀cs∈xs,∀p∈cs,vY p=true)->
  (∀(i:Nat) (p:Nat×Nat) (cs:List PV) (L:List Nat),locs[i]?=some p->xs[i]?=some cs->Le[i]?=some L->F8 S w J0 σ0 p cs L)->Tr S S w w J0 J σ0 s->rR X S s N Le.flatten->
  ∃J' N',lN X S ⟨t,aJk base e xs s⟩ w tm J' N'/\Tr S S w w J J' s (aJk base e xs s)
 | [],[],[],base,e,J,N,s,h,_,_,_,_,_,_,_,_,_,_,_,_,_=>⟨J,N,h,Tr.refl⟩
 | cs::xs,p::locs,L::Le,base,e,J,N,s,h,he,hb,hbm,H,hL,hn,hz,R,hβ,ha,hB,T0,hP=>by
  obtain⟨cur,E,us,b1,b2,b3,b4⟩:=hB 0 p cs L rfl rfl rfl
  have hn0:=hn cs (aN ..)
  have hxl:(cs::xs).length=xs.length+1:=rfl
  have hPl:rR X S s N L:=by rw[dE]at hP;exact hP.left
  obtain⟨J1,N1,st1,T1,v1,hh1,hk⟩:=R4 h hb (by omega) (fun i I=>hz i (by unfold IY at *;omega)) (ha cs (aN ..)) b4 T0 hPl
  have z:∀i,i<49->¬IY base cs.length i:=fun i I=>by unfold IY;omega
  have hse:R2 base cs s e=⟨0,some (.box (List.replicate cs.length .dead))⟩:=by
   rw[(hk e (z e (by omega))).1];exact R 0 cs rfl
  have hβe:J1 e=some p:=by rw[(hk e (z e (by omega))).2];exact hβ 0 p rfl
  have W:(R3 base cs).length=cs.length:=by
   have:∀(ps:List PV) (id:Nat),(R3 id ps).length=ps.length:=by
    intro ps
    induction ps with
    | nil=>intro id;rfl
    | cons p ps ih=>intro id;simp[R3,ih]
   exact this _ _
  have hsp:splice (List.replicate cs.length PV.dead) 0 (R3 base cs)=R3 base cs:=by
   unfold splice;simp[W]
  obtain⟨T2,st2⟩:=lN.setBox (cs':=R3 base cs) (j:=0) st1 hse (by simp[W]) hβe b1 (us:=us) (fun i u I=>by rw[eY];exact b3 i u I) v1
  rw[hsp]at T2 st2
  have D:rR X S (R2 base cs s) N1 Le.flatten:=by rw[dE]at hP;exact hP.right hh1
  have hP3:rR X S (eN (R2 base cs s) e ⟨0,some (.box (R3 base cs))⟩) N1 Le.flatten:=⟨D.nd,D.ns,D.new,fun i bl hbl x hx=>by
   by_cases I:i=e
   ·subst I;exact D.dj i _ (by rw[hse]) x hx
   ·rw[bU _ _ I]at hbl;exact D.dj i bl hbl x hx⟩
  obtain⟨J',N',st3,T3⟩:=WI (base:=base+1000) (e:=e+1) st2 (by omega) (by omega) (by omega) (by simpa using H) (by simpa using hL) (fun c Y=>hn c (aI _ Y))
   (fun i I=>by rw[bU _ _ (by unfold IY at I;omega),(hk i (by unfold IY at *;omega)).1];exact hz i (by unfold IY at *;omega))
   (fun i c Y=>by
    have I:=(iR.1 Y).1
    rw[bU _ _ (by omega),(hk (e+1+i) (z _ (by omega))).1,show e+1+i=e+(i+1) by omega];exact R (i+1) c (by simpa using Y))
   (fun i q hq=>by
    have I:=(iR.1 hq).1
    have hl':locs.length=xs.length:=by simpa using H
    rw[(hk (e+1+i) (z _ (by omega))).2,show e+1+i=e+(i+1) by omega];exact hβ (i+1) q (by simpa using hq))
   (fun c Y=>ha c (aI _ Y)) (fun i q c M h1 h2 h3=>hB (i+1) q c M (by simpa using h1) (by simpa using h2) (by simpa using h3)) (T0.trans (T1.trans T2)) hP3
  exact⟨J',N',st3,T1.trans (T2.trans T3)⟩
 | [],_::_,_,_,_,_,_,_,_,_,_,_,H,_,_,_,_,_,_,_,_,_=>by cases H
 | [],[],_::_,_,_,_,_,_,_,_,_,_,_,H,_,_,_,_,_,_,_,_=>by cases H
 | _::_,[],_,_,_,_,_,_,_,_,_,_,H,_,_,_,_,_,_,_,_,_=>by cases H
 | _::_,_::_,[],_,_,_,_,_,_,_,_,_,_,H,_,_,_,_,_,_,_,_=>by cases H
def K3 (i n j:Nat):Prop:=IY (90000000+i) n j∨IY (91000000+1000*i) (1000*n) j
theorem aFr (h:lN X S ⟨t,s⟩ w tm J N) (hi1:i<1000) (W:∀j,K3 i 1 j->s j=⟨0,none⟩) (Y:aAi p=true) (ho:kN S w J0 σ0 p u L) (T0:Tr S S w w J0 J σ0 s) (H:rR X S s N L) :
  ∃J' N',lN X S ⟨t,R0 i p s⟩ w tm J' N'/\Tr S S w w J J' s (R0 i p s)/\GA S w J' (R0 i p s) (aK9 i p) u/\oM s N (R0 i p s) N' L/\(∀j,¬K3 i 1 j->R0 i p s j=s j/\J' j=J j):=by
 by_cases e:∃cs,p= .agg cs
 ·obtain⟨cs,rfl⟩:=e
  obtain⟨us,rfl,h3⟩:=ho
  have D:cs.all vY=true/\Nat.ble cs.length 1000=true:=by simpa [aAi]using Y
  have hcl:cs.length<=1000:=bY D.2
  obtain⟨J',N',st,T,v,I,M⟩:=R4 (id:=91000000+1000*i) h (by omega) (by omega) (fun j z=>W j (.inr (by unfold IY at *;omega))) (fun p H=>List.all_eq_true.1 D.1 p H) h3 T0 H
  exact⟨J',N',st,T,⟨us,rfl,v⟩,I,fun j z=>M j fun hr=>z (.inr (by unfold IY at *;omega))⟩
 ·have hc:vY p=true:=by cases p<;>first|exact Y|exact absurd ⟨_,rfl⟩ e
  have R:gI S w J0 σ0 p u L:=by cases p<;>first|exact ho|exact absurd ⟨_,rfl⟩ e
  have e1:R0 i p s=JL (90000000+i) p s:=by cases p<;>first|rfl|exact absurd ⟨_,rfl⟩ e
  have e2:aK9 i p=aHM (90000000+i) p:=by cases p<;>first|rfl|exact absurd ⟨_,rfl⟩ e
  rw[e1,e2]
  obtain⟨J',N',st,T,v,I,M⟩:=WH (id:=90000000+i) h (by omega) (fun j z=>W j (.inl z)) hc R T0 H
  refine⟨J',N',st,T,?_,I,fun j z=>M j fun hr=>z (.inl hr)⟩
  cases p<;>first|exact v|exact absurd ⟨_,rfl⟩ e|skip
  case row own k l=>cases own<;>exact v
theorem WG {J0:Nat->Option (Nat×Nat)} {σ0:cU}:∀{ps:List PV} {us:List Value} {i:Nat} {L:List Nat} {J:Nat->Option (Nat×Nat)} {N:Nat->List Nat} {s:cU},lN X S ⟨t,s⟩ w tm J N->i+ps.length<=1000->(∀j,K3 i ps.length j->s j=⟨0,none⟩)->(∀p∈ps,aAi p=true)->
  bZ (kN S w J0 σ0) ps us L->Tr S S w w J0 J σ0 s->rR X S s N L->
  ∃J' N',lN X S ⟨t,R1 i ps s⟩ w tm J' N'/\Tr S S w w J J' s (R1 i ps s)/\bC (GA S w J' (R1 i ps s)) (aDp i ps) us/\oM s N (R1 i ps s) N' L/\(∀j,¬K3 i ps.length j->R1 i ps s j=s j/\J' j=J j)
 | [],[],i,L,J,N,s,h,hm,I,M,ho,T0,z=>⟨J,N,h,Tr.refl,trivial,oM.refl,fun _ _=>⟨rfl,rfl⟩⟩
 | p::ps,u::us,i,L,J,N,s,h,hm,I,M,⟨L1,L2,e,h1,h2⟩,T0,z=>by
  subst e
  have hl:(p::ps).length=ps.length+1:=rfl
  obtain⟨J1,N1,R,T1,v1,D,H⟩:=aFr (i:=i) h (by omega) (fun j hj=>I j (by unfold K3 IY at *;omega)) (M p (aN ..)) h1 T0 z.left
  obtain⟨J',N',W,T2,v2,Y,hk⟩:=WG (i:=i+1) R (by omega) (fun j hj=>by
   rw[(H j (by unfold K3 IY at *;omega)).1];exact I j (by unfold K3 IY at *;omega)) (fun p z=>M p (aI _ z)) h2 (T0.trans T1) (z.right D)
  refine⟨J',N',W,T1.trans T2,⟨T2.v1 v1,v2⟩,D.app Y,fun j hj=> ?_⟩
  obtain⟨q1,q2⟩:=hk j (by unfold K3 IY at *;omega)
  obtain⟨q3,q4⟩:=H j (by unfold K3 IY at *;omega)
  exact⟨q1.trans q3,q2.trans q4⟩
 | [],_::_,_,_,_,_,_,_,_,_,_,h,_,_=>h.elim
 | _::_,[],_,_,_,_,_,_,_,_,_,h,_,_=>h.elim
end
open Go.RowKit
theorem VZ {Z:gU}:∀{n e:Nat} {l:List (List PV)},aE8 Z e n=some l->l.length=n/\∀(i:Nat) cs,l[i]?=some cs->∃v,Z.s (e+i)=⟨v,some (.box cs)⟩
 | 0,e,l,h=>by cases h;exact⟨rfl,fun i cs h=>by simp at h⟩
 | n+1,e,l,h=>by
  unfold aE8 at h
  split at h
  ·rename_i v cs R D H
   cases h
   obtain⟨I,q2⟩:=VZ H
   refine⟨by simp[I],fun i c z=> ?_⟩
   cases i with
   | zero=>simp at z;subst z;exact⟨v,D⟩
   | succ i=>obtain⟨M,q3⟩:=q2 i c (by simpa using z);exact⟨M,by rw[show e+(i+1)=e+1+i by omega];exact q3⟩
  ·cases h
theorem bZ.split {R:PV->Value->List Nat->Prop}:∀{as bs:List PV} {us:List Value} {L:List Nat},bZ R (as++bs) us L->∃z D L1 L2,us=z++D/\L=L1++L2/\bZ R as z L1/\bZ R bs D L2
 | [],bs,us,L,h=>⟨[],us,[],L,rfl,rfl,rfl,h⟩
 | a::as,bs,u::us,L,⟨L1,L2,e,H,I⟩=>by
  obtain⟨z,D,M1,M2,rfl,rfl,M,W⟩:=bZ.split I
  subst e
  exact⟨u::z,D,L1++M1,M2,rfl,by rw[aQ],⟨L1,M1,rfl,H,M⟩,W⟩
 | _::_,_,[],_,h=>h.elim
theorem bZ.aggs {S:Nat->Prop} {w:World} {J:Nat->Option (Nat×Nat)} {σ:cU}:∀{xs:List (List PV)} {us:List Value} {L:List Nat},bZ (kN S w J σ) (xs.map .agg) us L->∃(vs:List (Array Value)) (Ls:List (List Nat)),us=vs.map Value.agg/\Ls.flatten=L/\vs.length=xs.length/\Ls.length=xs.length/\
  ∀(i:Nat) cs v M,xs[i]?=some cs->vs[i]?=some v->Ls[i]?=some M->bZ (gI S w J σ) cs v.toList M
 | [],[],L,h=>⟨[],[],rfl,h.symm,rfl,rfl,fun i cs v M h=>by simp at h⟩
 | cs::xs,u::us,L,⟨L1,L2,e,I,R⟩=>by
  subst e
  obtain⟨v,rfl,W⟩:=I
  obtain⟨vs,Ls,rfl,Y,q1,q2,q3⟩:=bZ.aggs R
  refine⟨v::vs,L1::Ls,rfl,by simp[Y],by simp[q1],by simp[q2],fun i c v' M z D H=> ?_⟩
  cases i with
  | zero=>simp at z D H;subst z D H;exact W
  | succ i=>exact q3 i c v' M (by simpa using z) (by simpa using D) (by simpa using H)
 | [],_::_,_,h=>h.elim
 | _::_,[],_,h=>h.elim
theorem WE:∀{l:List Nat} {i j x:Nat},l.Nodup->l[i]?=some x->l[j]?=some x->i=j
 | y::l,i,j,x,h,e,z=>by
  rw[gH]at h
  cases i with
  | zero=>cases j with
   | zero=>rfl
   | succ j=>simp at e z;subst e;exact absurd (tF z) h.1
  | succ i=>cases j with
   | zero=>simp at e z;subst z;exact absurd (tF e) h.1
   | succ j=>exact congrArg (· + 1) (WE h.2 (by simpa using e) (by simpa using z))
 | [],_,_,_,_,h,_=>by simp at h
theorem aFt {qs:List PV} (h:bZ (kN S w J σ) qs us L):DL S w J σ (aBg qs) (Y8 us) L:=by
 match qs,us,h with
 | [],[],h=>exact⟨#[],rfl,h⟩
 | [q],[u],⟨L1,L2,e,z,D⟩=>
  have:L2=[]:=D
  subst this
  rw[bO]at e
  subst e
  show DL _ _ _ _ q u L
  cases q<;>first|exact z|exact z.2.elim
 | q1::q2::qs,H::I::us,h=>exact⟨(H::I::us).toArray,rfl,by simpa using h⟩
 | [],_::_,h=>exact h.elim
 | _::_,[],h=>exact h.elim
 | [_],_::_::_,⟨_,_,_,_,h⟩=>exact h.elim
 | _::_::_,[_],⟨_,_,_,_,h⟩=>exact h.elim
section
variable {P:Program}
theorem aHi {E:World->Prop} {exts:List (List PV)} {rx:Nat->Option (Value×Nat)} {few:locs.length<=49} {hG:∀b∈locs.map (·.1)++La++Le.flatten,G<=b} {hw:G<=w.heap.size} {cl:∀w w':World,E w->(∀b,b<G->w'.heap[b]?=w.heap[b]?)->E w'}
  (hl1:locs.length=exts.length) (hlocnd:(locs.map (·.1)).Nodup) (hel:exts'.map List.length=exts.map List.length)
  {X:mM} (hX:X= {w0:=w,F:=locs.map (·.1)++La++Le.flatten,ext:=locs,lens:=exts.map List.length,E:=E,S:=S,few:=few,rx:=rx,G:=G,hG:=hG,hw:=hw,cl:=cl})
  {Z':gU} {tm':Array Value} {J:Nat->Option (Nat×Nat)} {N:Nat->List Nat} (z:St X Z' w' tm' J N) {ls:List PV} {gs:List Value} (hgs:bC (e9 (Fz X w' N Z'.s) w' J Z'.s) ls gs)
  {vs:List PV} {us':List Value} (hall':bC (gM (Fz X w' N Z'.s) w' J Z'.s) vs us') {cs:List (List PV)} {qs:List PV} {A B:List Nat} (h2:aE8 Z' 0 exts.length=some cs) (h3:tH Z'.s (vs++ .agg ls::cs.map .agg)=some (qs,A,B)) (h4:yK A=true) (h5:I9 A B=true) {rT bT:List PV} (h6:bC OT qs (rT++ .agg bT::exts'.map .agg)) :
  ∃(L1 L3:List Nat) (Le':List (List Nat)),Le'.length=exts.length/\(locs.map (·.1)++(L1++L3)++Le'.flatten).Nodup/\
   (∀b∈(L1++L3)++Le'.flatten,(b∈La++Le.flatten∨w.heap.size<=b)/\b<w'.heap.size)/\
   DL (fun b=>(S b∨b∈La++Le.flatten∨w.heap.size<=b)/\b<w'.heap.size/\b∉locs.map (·.1)++(L1++L3)++Le'.flatten) w' (kO locs) (iF exts') (aBg rT) (Y8 us') L1/\
   bZ (gI (fun b=>(S b∨b∈La++Le.flatten∨w.heap.size<=b)/\b<w'.heap.size/\b∉locs.map (·.1)++(L1++L3)++Le'.flatten) w' (kO locs) (iF exts')) bT gs L3/\
   (∀(j:Nat) p cs L,locs[j]?=some p->exts'[j]?=some cs->Le'[j]?=some L->F8 (fun b=>(S b∨b∈La++Le.flatten∨w.heap.size<=b)/\b<w'.heap.size/\b∉locs.map (·.1)++(L1++L3)++Le'.flatten) w' (kO locs) (iF exts') p cs L)/\
   aEL w w' (locs.map (·.1)++La++Le.flatten) locs (exts.map List.length):=by
 subst hX
 let X:mM:= {w0:=w,F:=locs.map (·.1)++La++Le.flatten,ext:=locs,lens:=exts.map List.length,E:=E,S:=S,few:=few,rx:=rx,G:=G,hG:=hG,hw:=hw,cl:=cl}
 obtain⟨lA,lB⟩:=(DV h3).1
 have hA:=tR h4
 have hdis:=PG h5
 obtain⟨hcl,hcs⟩:=VZ h2
 simp only[bP]at hcs
 have hbx:∀(i:Nat) c,cs[i]?=some c->∃p,locs[i]?=some p/\c.length=(exts.map List.length)[i]?.getD 0/\N i=[p.1]/\∃cur E H,gY w' p.1 cur E/\p.2+c.length<=cur.size/\H.length=c.length/\(∀(j:Nat) u,H[j]?=some u->cur[p.2+j]?=some u/\u.oneCell'=true)/\bC (e9 (Fz X w' N Z'.s) w' J Z'.s) c H:=fun i c Y=>by
  obtain⟨ver,hs0⟩:=hcs i c Y
  have hi:i<locs.length:=by have:=(iR.1 Y).1;omega
  have hloc:locs[i]?=some locs[i]:=by simp[hi]
  obtain⟨q1,cs0,q2,q3⟩:=z.ext i locs[i] hloc
  rw[hs0]at q2
  cases q2
  obtain⟨b,off,cur,E0,r1,r2,r3,r4,r5⟩:=z.blk i _ (by rw[hs0])
  rw[q1]at r1
  obtain⟨e1,e2⟩:locs[i].1=b/\locs[i].2=off:=by injection r1 with r1;rw[r1];exact⟨rfl,rfl⟩
  have key:∀(l:List PV) (k:Nat),(∀(j:Nat) p,l[j]?=some p->c[k+j]?=some p)->∃H:List Value,H.length=l.length/\(∀(j:Nat) u,H[j]?=some u->cur[off+k+j]?=some u/\u.oneCell'=true)/\bC (e9 (Fz X w' N Z'.s) w' J Z'.s) l H:=by
   intro l
   induction l with
   | nil=>intro k _;exact⟨[],rfl,(fun j u h=>by simp at h),trivial⟩
   | cons p l ih=>
    intro k hl
    obtain⟨H,m1,m2,m3⟩:=ih (k+1) fun j p hp=>by rw[show k+1+j=k+(j+1) by omega];exact hl (j+1) p (by simpa using hp)
    obtain⟨u,hu,h1c,hv⟩:=r5 k p (by simpa using hl 0 p rfl)
    refine⟨u::H,by simp[m1],fun j u' hj=> ?_,hv,m3⟩
    cases j with
    | zero=>simp at hj;subst hj;exact⟨by simpa using hu,h1c⟩
    | succ j=>rw[show off+k+(j+1)=off+(k+1)+j by omega];exact m2 j u' (by simpa using hj)
  obtain⟨H,m1,m2,m3⟩:=key c 0 fun j p hp=>by rw[bP];exact hp
  refine⟨locs[i],hloc,?_,by rw[e1];exact r2,cur,E0,H,by rw[e1];exact r3,by rw[e2];exact r4,m1,fun j u hj=>by rw[e2];exact m2 j u hj,m3⟩
  have q3:(exts.map List.length)[i]?=some c.length:=q3
  rw[q3];rfl
 obtain⟨uss,hul2,hul2',hall2⟩:∃uss:List (Array Value),uss.length=cs.length/\(∀(i:Nat) c v,cs[i]?=some c->uss[i]?=some v->∃p,locs[i]?=some p/\∃cur E,gY w' p.1 cur E/\p.2+c.length<=cur.size/\v.toList.length=c.length/\(∀(j:Nat) u,v.toList[j]?=some u->cur[p.2+j]?=some u/\u.oneCell'=true))/\bC (gM (Fz X w' N Z'.s) w' J Z'.s) (cs.map .agg) (uss.map Value.agg):=by
  have key:∀(l:List (List PV)) (k:Nat),(∀(i:Nat) c,l[i]?=some c->cs[k+i]?=some c)->∃uss:List (Array Value),uss.length=l.length/\(∀(i:Nat) c v,l[i]?=some c->uss[i]?=some v->∃p,locs[k+i]?=some p/\∃cur E,gY w' p.1 cur E/\p.2+c.length<=cur.size/\v.toList.length=c.length/\(∀(j:Nat) u,v.toList[j]?=some u->cur[p.2+j]?=some u/\u.oneCell'=true))/\bC (gM (Fz X w' N Z'.s) w' J Z'.s) (l.map .agg) (uss.map Value.agg):=by
   intro l
   induction l with
   | nil=>intro k _;exact⟨[],rfl,(fun i c v h=>by simp at h),trivial⟩
   | cons c l ih=>
    intro k hl
    obtain⟨uss,m1,m2,m3⟩:=ih (k+1) fun i c Y=>by rw[show k+1+i=k+(i+1) by omega];exact hl (i+1) c (by simpa using Y)
    obtain⟨p,n1,_,_,cur,E0,H,n3,n4,n5,n6,n7⟩:=hbx k c (by simpa using hl 0 c rfl)
    refine⟨H.toArray::uss,by simp[m1],fun i c' v' Y hv=> ?_,⟨H.toArray,rfl,by simpa using n7⟩,m3⟩
    cases i with
    | zero=>simp at Y hv;subst Y hv;exact⟨p,by simpa using n1,cur,E0,n3,n4,by simpa using n5,fun j u hj=>n6 j u (by simpa using hj)⟩
    | succ i=>rw[show k+(i+1)=k+1+i by omega];exact m2 i c' v' (by simpa using Y) (by simpa using hv)
  obtain⟨uss,m1,m2,m3⟩:=key cs 0 fun i c Y=>by rw[bP];exact Y
  exact⟨uss,m1,fun i c v Y hv=>by have:=m2 i c v Y hv;rwa[bP]at this,m3⟩
 have hallT:=bC.app hall' (show bC _ (.agg ls::cs.map .agg) (.agg gs.toArray::uss.map Value.agg)from⟨⟨gs.toArray,rfl,by simpa using hgs⟩,hall2⟩)
 obtain⟨nbA,nbB⟩:=(DV h3).2
 have hlocN:∀b,b∈locs.map (·.1)->∃i c,cs[i]?=some c/\b∈N i:=fun b I=>by
  obtain⟨p,hp,rfl⟩:=List.mem_map.1 I
  obtain⟨i,hi⟩:=bD hp
  have hilt:=(iR.1 hi).1
  have Y:cs[i]?=some (cs[i]'(by omega)):=by simp[hcl,<-hl1,hilt]
  obtain⟨p',q1,_,q2,_⟩:=hbx i _ Y
  rw[hi]at q1;cases q1
  exact⟨i,_,Y,by rw[q2];simp⟩
 have hbox':∀(i:Nat) c,cs[i]?=some c->∃blk,(Z'.s i).blk=some blk/\blk= .box c:=fun i c Y=>by
  obtain⟨ver,e⟩:=hcs i c Y
  exact⟨_,by rw[e],rfl⟩
 have hnoloc:∀id blk,(Z'.s id).blk=some blk->(∀ds,blk≠ .box ds)->∀b∈N id,b∉locs.map (·.1):=fun id blk D hnb b W hm=>by
  obtain⟨i,c,Y,hbi⟩:=hlocN b hm
  obtain⟨blk',hbk',rfl⟩:=hbox' i c Y
  refine z.disj id i _ _ D hbk' (fun e=> ?_) b W hbi
  subst e
  rw[D]at hbk';cases hbk'
  exact hnb c rfl
 have hin:∀id blk,(Z'.s id).blk=some blk->(∀ds,blk≠ .box ds)->∀b∈N id,(b∈La++Le.flatten∨w.heap.size<=b)/\b<w'.heap.size/\b∉locs.map (·.1):=fun id blk D hnb b W=>by
  have h0:=hnoloc id blk D hnb b W
  refine⟨?_,z.lt id blk D b W,h0⟩
  rcases z.new id blk D b W with h|h
  ·have h:b∈locs.map (·.1)++La++Le.flatten:=h
   rw[aQ]at h
   exact .inl ((List.mem_append.1 h).resolve_left h0)
  ·exact .inr h
 have hL0:∀b∈(A.map N).flatten,∃id∈A,b∈N id:=fun b I=>by
  obtain⟨q,hq,I⟩:=List.mem_flatten.1 I
  obtain⟨id,hid,rfl⟩:=List.mem_map.1 hq
  exact⟨id,hid,I⟩
 have hL0in:∀b∈(A.map N).flatten,(b∈La++Le.flatten∨w.heap.size<=b)/\b<w'.heap.size/\b∉locs.map (·.1):=fun b I=>by
  obtain⟨id,hid,W⟩:=hL0 b I
  obtain⟨blk,D⟩:=lA id hid
  exact hin id blk D (fun ds e=>nbA id hid ds (by rw[D,e])) b W
 let SB:Nat->Prop:=fun b=>(S b∨b∈La++Le.flatten∨w.heap.size<=b)/\b<w'.heap.size/\b∉locs.map (·.1)/\b∉(A.map N).flatten
 have hSB:∀b,Fz X w' N Z'.s b->SB b:=fun b I=>by
  have hnl:b∉locs.map (·.1):=fun hm=>by
   obtain⟨i,c,Y,hbi⟩:=hlocN b hm
   obtain⟨blk',hbk',_⟩:=hbox' i c Y
   exact I.2.1 ⟨i,blk',hbk',hbi⟩
  refine⟨?_,I.1,hnl,fun hm=> ?_⟩
  ·rcases I.2.2 with h|h|h
   ·exact .inl h
   ·have h:b∈locs.map (·.1)++La++Le.flatten:=h
    rw[aQ]at h
    exact .inr (.inl ((List.mem_append.1 h).resolve_left hnl))
   ·exact .inr (.inr h)
  ·obtain⟨id,hid,W⟩:=hL0 b hm
   obtain⟨blk,D⟩:=lA id hid
   exact I.2.1 ⟨id,blk,D,W⟩
 have hxk:HxK Z' J (kO locs) (iF exts'):=fun e c u he ⟨p1,p2,p3⟩=>by
  refine⟨cT _,p2,fun blk I=> ?_⟩
  unfold iF at I
  split at I
  ·rename_i c2 hc2
   cases I
   have hlt:e<exts'.length:=(iR.1 hc2).1
   have hll:exts'.length=exts.length:=by have:=congrArg List.length hel;simpa using this
   have hloc:locs[e]?=some (locs[e]'(by omega)):=iD (by omega)
   obtain⟨q1,_⟩:=z.ext e _ hloc
   obtain⟨b,off,r1,r2⟩:=p3 _ he
   rw[q1]at r1
   exact⟨b,off,hloc.trans r1,r2⟩
  ·cases I
 obtain⟨-,k2⟩:=GJ (S':=SB) (J':=kO locs) (σ':=iF exts') z hxk hSB hallT h3 (fun id hid b W=>by
  obtain⟨blk,D⟩:=lB id hid
  obtain⟨q1,q2,q3⟩:=hin id blk D (fun ds e=>nbB id hid ds (by rw[D,e])) b W
  refine⟨.inr q1,q2,q3,fun hm=> ?_⟩
  obtain⟨id2,hid2,hbN2⟩:=hL0 b hm
  obtain⟨blk2,hbk2⟩:=lA id2 hid2
  exact z.disj id2 id _ _ hbk2 D (fun e=>hdis id2 hid2 (e▸hid)) b hbN2 W)
 have hnd2:=z.nodups hA lA
 obtain⟨L',hsub,hk⟩:=bZ.wk (R:=fun S p u L=>kN S w' (kO locs) (iF exts') p u L) (fun p q u L hn h ho=>aEI hn h ho) hnd2 h6 k2
 have hk:=hk (fun b=>(S b∨b∈La++Le.flatten∨w.heap.size<=b)/\b<w'.heap.size/\b∉locs.map (·.1)++L') (fun b I=>⟨I.1,I.2.1,fun hm=>(List.mem_append.1 hm).elim I.2.2.1 fun h=>I.2.2.2 (hsub.mem h)⟩)
  (fun b I hb'=>by
   obtain⟨q1,q2,q3⟩:=hL0in b I
   exact⟨.inr q1,q2,fun hm=>(List.mem_append.1 hm).elim q3 hb'⟩)
 obtain⟨u1,u2,L1,L2,e1,rfl,o1,o2⟩:=bZ.split hk
 have hlq:=bC.len h6
 have hxl:exts'.length=exts.length:=by have:=congrArg List.length hel;simpa using this
 have hu1:u1.length=us'.length:=by
  have m1:=bZ.len o1
  have m2:=bZ.len o2
  have m3:=congrArg List.length e1
  simp only[aW,aP,cL]at m2 m3
  omega
 obtain⟨rfl,rfl⟩:=List.append_inj e1 hu1.symm
 obtain⟨L3,L4,rfl,o3,o2⟩:=o2
 obtain⟨gs',eg,o3⟩:=o3
 have eg:gs'=gs.toArray:=by injection eg with eg;exact eg.symm
 subst eg
 rw[show gs.toArray.toList=gs by simp]at o3
 obtain⟨vs2,Ls,e2,e3,n1,n2,n3⟩:=bZ.aggs o2
 have hvs:vs2=uss:=(List.map_inj_right (fun a b h=>by injection h)).1 e2.symm
 subst hvs
 subst e3
 have eL:locs.map (·.1)++(L1++(L3++Ls.flatten))=locs.map (·.1)++(L1++L3)++Ls.flatten:=by simp only[aQ]
 refine⟨L1,L3,Ls,by rw[n2,hxl],?_,fun b I=> ?_,?_,?_,fun j p c M hj Y hM=> ?_,?_⟩
 ·rw[<-eL,nE]
  exact⟨hlocnd,hsub.nodup hnd2,fun x hx y hy e=>(hL0in y (hsub.mem hy)).2.2 (e▸hx)⟩
 ·obtain⟨q1,q2,_⟩:=hL0in b (hsub.mem (by rw[aQ]at I;exact I))
  exact⟨q1,q2⟩
 ·have:=aFt o1
  rw[eL]at this
  exact this
 ·rw[eL]at o3
  exact o3
 ·have hjl:j<exts'.length:=(iR.1 Y).1
  have hcj:cs[j]?=some (cs[j]'(by omega)):=by simp[hcl,<-hxl,hjl]
  have hvj:vs2[j]?=some (vs2[j]'(by omega)):=by simp[n1,hjl]
  obtain⟨p',q1,cur,E0,q2,q3,q4,q5⟩:=hul2' j _ _ hcj hvj
  rw[hj]at q1;cases q1
  have q6:=n3 j c _ M Y hvj hM
  have hcl2:c.length=(cs[j]'(by omega)).length:=by rw[<-q4];exact bZ.len q6
  rw[eL]at q6
  exact⟨cur,E0,_,q2,by rw[hcl2];exact q3,fun i u hi=>q5 i u hi,q6⟩
 ·obtain⟨f1,f2,f3,f4,f5,f6⟩:=z.frm
  exact⟨f1,f2,f3,f4,f5,f6⟩
end
open Go.RowKit
section
variable {P:Program}
theorem aFf {E:World->Prop} {args:List PV} {exts:List (List PV)} {rx:Nat->Option (Value×Nat)} {few:locs.length<=49} {hG:∀b∈locs.map (·.1)++La++Le.flatten,G<=b} {hw:G<=w.heap.size} {cl:∀w w':World,E w->(∀b,b<G->w'.heap[b]?=w.heap[b]?)->E w'}
  {X:mM} (hX:X= {w0:=w,F:=locs.map (·.1)++La++Le.flatten,ext:=locs,lens:=exts.map List.length,E:=E,S:=S,few:=few,rx:=rx,G:=G,hG:=hG,hw:=hw,cl:=cl}) (hE:E w)
  (hl1:locs.length=exts.length) (hl2:Le.length=exts.length) (hnd:(locs.map (·.1)++La++Le.flatten).Nodup) (hF0:∀b∈locs.map (·.1)++La++Le.flatten,G<=b/\b<w.heap.size) (hS:∀b,S b->b<w.heap.size/\b∉locs.map (·.1)++La++Le.flatten)
  (hargs:bZ (kN S w (kO locs) (iF exts)) args us La) (hext:∀(j:Nat) p cs L,locs[j]?=some p->exts[j]?=some cs->Le[j]?=some L->F8 S w (kO locs) (iF exts) p cs L)
  (hargs0:args.all aAi=true) (hcells:exts.all (fun cs=>cs.all vY)=true) {nt:Nat} (hlen:args.length<=nt) (hne:exts.length<=49) (hnc:∀cs∈exts,cs.length<=1000) (hal:args.length<=1000) (hrx:rx=fun _=>none) :
  ∃J N,St X (aA0 false args exts) w (us.toArray++Array.replicate (nt-us.toArray.size) undef) J N:=by
 subst hX
 subst hrx
 let X:mM:= {w0:=w,F:=locs.map (·.1)++La++Le.flatten,ext:=locs,lens:=exts.map List.length,E:=E,S:=S,few:=few,rx:=fun _=>none,G:=G,hG:=hG,hw:=hw,cl:=cl}
 have W:∀(j:Nat) p,locs[j]?=some p->∃cs,exts[j]?=some cs/\∃L,Le[j]?=some L/\F8 S w (kO locs) (iF exts) p cs L:=fun j p Y=>by
  have hj:=(iR.1 Y).1
  have e1:exts[j]?=some (exts[j]'(by omega)):=by simp[<-hl1,hj]
  have e2:Le[j]?=some (Le[j]'(by omega)):=by simp[hl2,<-hl1,hj]
  exact⟨_,e1,_,e2,hext j p _ _ Y e1 e2⟩
 let J0:Nat->Option (Nat×Nat):=kO locs
 let N0:Nat->List Nat:=fun j=>match locs[j]? with|some p=> [p.1]|none=> []
 have T0:Tr S S w w (kO locs) J0 (iF exts) (tJ exts):=by
  refine⟨fun h=>h,fun{id ver off n full u} hr=> ?_,fun{id ver i j u} Y=> ?_⟩
  ·obtain⟨I,D,R⟩:=hr
   refine⟨?_,D,fun blk k l e hr=> ?_⟩
   ·have:(iF exts id).ver=0:=by unfold iF;split<;>rfl
    rw[this]at I
    have e2:(tJ exts id).ver=0:=by unfold tJ;split<;>rfl
    rw[e2];exact I
   ·unfold tJ at e;split at e<;>cases e<;>cases hr
  ·obtain⟨I,D,R⟩:=Y
   refine⟨?_,D,fun blk e=> ?_⟩
   ·have:(iF exts id).ver=0:=by unfold iF;split<;>rfl
    rw[this]at I
    have e2:(tJ exts id).ver=0:=by unfold tJ;split<;>rfl
    rw[e2];exact I
   ·unfold tJ at e
    split at e
    ·rename_i cs M
     cases e
     have:=R (.box cs) (by unfold iF;rw[M])
     exact this
    ·cases e
 have hul:us.length=args.length:=(bZ.len hargs).symm
 let t0:Nat->PV:=fun _=> .dead
 let tm:Array Value:=us.toArray++Array.replicate (nt-us.toArray.size) undef
 have live0:∀id b,(tJ exts id).blk=some b->∃cs p,exts[id]?=some cs/\locs[id]?=some p/\b= .box (List.replicate cs.length .dead)/\N0 id=[p.1]:=fun id b H=>by
  unfold tJ at H
  split at H
  ·rename_i cs M
   cases H
   have hj:=(iR.1 M).1
   have e1:locs[id]?=some (locs[id]'(by omega)):=by simp[hl1,hj]
   exact⟨cs,_,M,e1,rfl,by simp[N0,e1]⟩
  ·cases H
 have hlocnd:(locs.map (·.1)).Nodup:=by rw[aQ]at hnd;exact(List.nodup_append.1 hnd).1
 have st0:lN X S ⟨t0,tJ exts⟩ w tm J0 N0:=by
  refine⟨fun t u hu=>trivial,fun id b H=> ?_,fun id b H x hx=> ?_,fun id b H=> ?_,fun id id' b b' H hb' hne x hx hx'=> ?_,fun id b H x hx=> ?_,fun j p Y=> ?_,(fun q u n hq=>by cases hq),⟨rfl,rfl,rfl,bB _,fun _ _ _=>rfl,fun j b off n hj hn=> ?_⟩,hE,fun b H=>⟨(hS b H).1,fun⟨id,bl,I,D⟩=> ?_,.inl H⟩⟩
  ·obtain⟨cs,p,I,D,rfl,R⟩:=live0 id b H
   obtain⟨cs',h4,L,h5,cur,E0,vs,b1,b2,b3,b4⟩:=W id p D
   rw[I]at h4;cases h4
   refine⟨p.1,p.2,cur,E0,by simp[J0,kO,D],R,b1,by simpa using b2,fun j q hq=> ?_⟩
   rw[List.getElem?_replicate]at hq
   split at hq
   ·rename_i hj
    cases hq
    have hj2:j<vs.length:=by rw[<-bZ.len b4];exact hj
    obtain⟨m1,m2⟩:=b3 j vs[j] (by simp[hj2])
    exact⟨_,m1,m2,trivial⟩
   ·cases hq
  ·obtain⟨cs,p,I,D,rfl,R⟩:=live0 id b H
   rw[R]at hx
   have:=List.mem_singleton.1 hx
   subst this
   exact(hF0 _ (by rw[aQ];exact bJ _ (List.mem_map.2 ⟨p,tF D,rfl⟩))).2
  ·obtain⟨cs,p,I,D,rfl,R⟩:=live0 id b H
   rw[R];simp
  ·obtain⟨cs,p,I,D,rfl,R⟩:=live0 id b H
   obtain⟨cs',p',h1',h2',rfl,h3'⟩:=live0 id' b' hb'
   rw[R]at hx;rw[h3']at hx'
   have e1:=List.mem_singleton.1 hx
   have e2:=List.mem_singleton.1 hx'
   exact hne (WE hlocnd (x:=x) (by rw[bX,D,e1];rfl) (by rw[bX,h2',e2];rfl))
  ·obtain⟨cs,p,I,D,rfl,R⟩:=live0 id b H
   rw[R]at hx
   have:=List.mem_singleton.1 hx
   subst this
   exact .inl (by show _∈locs.map (·.1)++La++Le.flatten;rw[aQ];exact bJ _ (List.mem_map.2 ⟨p,tF D,rfl⟩))
  ·obtain⟨cs,I,L,D,R⟩:=W j p Y
   refine⟨by simp[J0,kO,show locs[j]?=some p from Y],List.replicate cs.length .dead,?_,?_⟩
   ·show(tJ exts j).blk=_
    unfold tJ;rw[I]
   ·show(exts.map List.length)[j]?=_
    simp[I]
  ·obtain⟨cs,I,L,D,cur,E0,vs,⟨fz,b1,_⟩,b2,b3,b4⟩:=W j (b,off) hj
   exact⟨cur,cur,E0,fz,b1,b1,rfl,fun _ _=>rfl⟩
  ·obtain⟨cs,p,R,h4,h5,h6⟩:=live0 id bl I
   rw[h6]at D
   have:=List.mem_singleton.1 D
   subst this
   exact(hS _ H).2 (by rw[aQ];exact bJ _ (List.mem_map.2 ⟨p,tF h4,rfl⟩))
 have hPend:rR X S (tJ exts) N0 (La++Le.flatten):=by
  refine⟨by rw[aQ]at hnd;exact(List.nodup_append.1 hnd).2.1,fun x hx hSx=>(hS x hSx).2 (by rw[aQ];exact bG _ hx),fun x hx=> .inl (by show x∈locs.map (·.1)++La++Le.flatten;rw[aQ];exact bG _ hx),fun id b H x hx hxn=> ?_⟩
  obtain⟨cs,p,I,D,rfl,R⟩:=live0 id b H
  rw[R]at hxn
  have:=List.mem_singleton.1 hxn
  subst this
  rw[aQ]at hnd
  exact(List.nodup_append.1 hnd).2.2 _ (List.mem_map.2 ⟨p,tF D,rfl⟩) _ hx rfl
 have hx0:∀i,49<=i->tJ exts i=⟨0,none⟩:=fun i I=>by unfold tJ;rw[dF (by omega)]
 obtain⟨J1,N1,st1,T1,v1,hh1,hk1⟩:=WG (i:=0) st0 (by omega) (fun j hj=>hx0 j (by unfold K3 IY at hj;omega)) (fun p Y=>List.all_eq_true.1 hargs0 p Y) hargs T0 hPend.left
 have hno:∀i,i<90000000->¬K3 0 args.length i:=fun i hi=>by unfold K3 IY;omega
 obtain⟨J2,N2,st2,T2⟩:=WI (xs:=exts) (locs:=locs) (Le:=Le) (base:=80000000) (e:=0) st1 (by omega) (by omega) (by omega) hl1 hl2 hnc
  (fun i hi=>by rw[(hk1 i (by unfold K3 IY at *;omega)).1];exact hx0 i (by unfold IY at hi;omega))
  (fun i cs M=>by rw[bP,(hk1 i (hno i (by have:=(iR.1 M).1;omega))).1];unfold tJ;rw[M])
  (fun i p Y=>by rw[bP,(hk1 i (hno i (by have:=(iR.1 Y).1;omega))).2];simp[J0,kO,Y])
  (fun cs M p Y=>List.all_eq_true.1 (List.all_eq_true.1 hcells cs M) p Y) hext (T0.trans T1) (hPend.right hh1)
 obtain⟨z,T3⟩:=st2.close
 refine⟨J2,N2,fun i u hu=> ?_,z.blk,z.lt,z.nodup,z.disj,z.new,z.ext,z.rxt,z.frm,z.env,z.fz⟩
 show gM _ _ _ _ (((aDp 0 args)[i]?).getD .un) u
 by_cases ht:i<args.length
 ·have hu2:us[i]?=some u:=by
   have:tm[i]?=us.toArray[i]?:=gG (by simp;omega)
   rw[this]at hu;simpa using hu
  have hlen2:(aDp 0 args).length=us.length:=v1.len
  obtain⟨u',hu',hv⟩:=v1.get i (aDp 0 args)[i] (by simp[hlen2,hul,ht])
  rw[hu2]at hu';cases hu'
  rw[iD (by omega),Option.getD_some]
  exact T3.vc (T2.vc (WZ hv))
 ·have hlen2:(aDp 0 args).length=us.length:=v1.len
  rw[dF (by omega)]
  have:tm[i]?=(Array.replicate (nt-us.toArray.size) undef)[i-us.toArray.size]?:=Array.getElem?_append_right (by simp;omega)
  rw[this]at hu
  exact(Array.mem_replicate.1 (Array.mem_of_getElem? hu)).2
theorem bZ.lists {α J:Type} {R:α->J->List Nat->Prop}:∀{as:List α} {bs:List J} {L:List Nat},bZ R as bs L->∃Ls:List (List Nat),Ls.flatten=L/\Ls.length=as.length/\∀(i:Nat) a,as[i]?=some a->∃b M,bs[i]?=some b/\Ls[i]?=some M/\R a b M
 | [],[],L,h=>⟨[],h.symm,rfl,fun i a h=>by simp at h⟩
 | a::as,b::bs,L,⟨L1,L2,e,D,H⟩=>by
  subst e
  obtain⟨Ls,I,W,Y⟩:=bZ.lists H
  refine⟨L1::Ls,by simp[I],by simp[W],fun i c z=> ?_⟩
  cases i with
  | zero=>simp at z;subst z;exact⟨b,L1,rfl,rfl,D⟩
  | succ i=>simpa using Y i c (by simpa using z)
 | [],_::_,_,h=>h.elim
 | _::_,[],_,h=>h.elim
section
variable {S:Nat->Prop} {w:World} {J:Nat->Option (Nat×Nat)} {σ:cU}
theorem y3:∀{cs:List PV} {us:List Value} {L:List Nat},bZ (gI S w J σ) cs us L->cs.all (fun p=>cJ p||yJ p)=true->bZ (gI S w J σ) (cs.filter cJ) (j8 cs us) L
 | [],[],L,h,_=>h
 | c::cs,u::us,L,⟨L1,L2,e,H,I⟩,D=>by
  subst e
  rw[cI,aB]at D
  have ih:=y3 I D.2
  by_cases z:cJ c=true
  ·rw[List.filter_cons_of_pos z]
   show bZ _ _ (lW c u++j8 cs us) _
   rw[show lW c u=[u] by unfold lW;rw[z]]
   exact⟨L1,L2,rfl,H,ih⟩
  ·rw[List.filter_cons_of_neg z]
   have z:cJ c=false:=by simpa using z
   show bZ _ _ (lW c u++j8 cs us) _
   rw[show lW c u=[] by unfold lW;rw[z]]
   have:=D.1
   rw[z,b9]at this
   obtain⟨rfl,-⟩:=D8 (S':=S) (J':=J) (σ':=σ) this H fun _ h=>h
   exact ih
 | [],_::_,_,h,_=>h.elim
 | _::_,[],_,h,_=>h.elim
theorem R6:∀{ps:List PV} {us:List Value} {L:List Nat},bZ (kN S w J σ) ps us L->ps.all D3=true->bZ (gI S w J σ) (qO ps) (gS ps us) L
 | [],[],L,h,_=>h
 | p::ps,u::us,L,⟨L1,L2,e,I,M⟩,D=>by
  subst e
  rw[cI,aB]at D
  have ih:=R6 M D.2
  show bZ _ (WJ p++qO ps) (C6 p u++gS ps us) _
  refine bZ.app ?_ ih
  by_cases z:∃cs,p= .agg cs
  ·obtain⟨cs,rfl⟩:=z
   obtain⟨vs,rfl,R⟩:=I
   exact y3 R D.1
  ·have H:gI S w J σ p u L1:=by cases p<;>first|exact I|exact absurd ⟨_,rfl⟩ z
   have W:WJ p=[p].filter cJ:=by cases p<;>first|rfl|exact absurd ⟨_,rfl⟩ z
   have Y:C6 p u=j8 [p] [u]:=by
    have:C6 p u=lW p u:=by cases p<;>first|rfl|exact absurd ⟨_,rfl⟩ z
    rw[this];show _=lW p u++ [];rw[bO]
   rw[W,Y]
   refine y3 ⟨L1,[],(bO _).symm,H,rfl⟩ ?_
   have:D3 p=(cJ p||yJ p):=by cases p<;>first|rfl|exact absurd ⟨_,rfl⟩ z
   rw[cI,gL,bE,<-this]
   exact D.1
 | [],_::_,_,h,_=>h.elim
 | _::_,[],_,h,_=>h.elim
def lL (w:World) (J:Nat->Option (Nat×Nat)) (σ:cU) (q:Nat) (ps:List PV) (gs:List Value):Prop:=∀(j:Nat) p u,ps[j]?=some p->gs[j]?=some u->oF w J σ (q+j) 0 0 (SS p) true u
theorem lL.left {q:Nat} {ps2:List PV} {gs gs2:List Value} (H:ps.length=gs.length) (h:lL w J σ q (ps++ps2) (gs++gs2)):lL w J σ q ps gs:=fun j p u e z=>by
 have D:=(iR.1 e).1
 exact h j p u (by rw[bM D];exact e) (by rw[bM (by omega)];exact z)
theorem lL.right {q:Nat} {ps2:List PV} {gs gs2:List Value} (e:ps.length=gs.length) (h:lL w J σ q (ps++ps2) (gs++gs2)):lL w J σ (q+ps.length) ps2 gs2:=fun j p u z D=>by
 have:=h (ps.length+j) p u (by rw[bI (by omega)];simpa using z) (by rw[bI (by omega),e,jG];exact D)
 rwa[<-fE]at this
theorem lL.refs:∀{ps:List PV} {gs:List Value} {q:Nat},lL w J σ q ps gs->ps.length=gs.length->bC (e9 S w J σ) (WB q ps) gs
 | [],[],_,_,_=>trivial
 | p::ps,u::gs,q,h,e=>⟨h 0 p u rfl rfl,lL.refs (q:=q+1) (fun j p u z D=>by rw[show q+1+j=q+(j+1) by omega];exact h (j+1) p u (by simpa using z) (by simpa using D)) (by simpa using e)⟩
 | [],_::_,_,_,h=>by cases h
 | _::_,[],_,_,h=>by cases h
variable {S2:Nat->Prop} {J2:Nat->Option (Nat×Nat)} {σ2:cU}
theorem FE (H:∀b,S b->S2 b):∀{cs:List PV} {us:List Value} {L:List Nat} {q:Nat},bZ (gI S w J σ) cs us L->cs.all (fun p=>cJ p||yJ p)=true->lL w J2 σ2 q (cs.filter cJ) (j8 cs us)->bC (e9 S2 w J2 σ2) (aHz q cs) us
 | [],[],L,q,h,_,_=>trivial
 | c::cs,u::us,L,q,⟨L1,L2,e,W,R⟩,I,Y=>by
  subst e
  rw[cI,aB]at I
  have z:lL w J2 σ2 q ((c::cs).filter cJ) (lW c u++j8 cs us):=Y
  by_cases D:cJ c=true
  ·rw[List.filter_cons_of_pos D,show lW c u=[u] by unfold lW;rw[D]]at z
   have M:=lL.right (ps:=[c]) (gs:=[u]) (ps2:=cs.filter cJ) (gs2:=j8 cs us) rfl z
   have ih:=FE H (q:=q+1) R I.2 M
   show bC _ (NU q c::aHz (match cJ c with|true=>q+1|false=>q) cs) _
   rw[D]
   refine⟨?_,ih⟩
   show e9 _ _ _ _ (NU q c) u
   rw[show NU q c= .ref q 0 0 (SS c) true by unfold NU;rw[D]]
   exact z 0 c u rfl rfl
  ·have D:cJ c=false:=by simpa using D
   rw[List.filter_cons_of_neg (by simp[D]),show lW c u=[] by unfold lW;rw[D]]at z
   have ih:=FE H (q:=q) R I.2 z
   show bC _ (NU q c::aHz (match cJ c with|true=>q+1|false=>q) cs) _
   rw[D]
   refine⟨?_,ih⟩
   rw[show NU q c=c by unfold NU;rw[D]]
   have:=I.1
   rw[D,b9]at this
   exact(D8 (S':=S2) (J':=J2) (σ':=σ2) this W H).2
 | [],_::_,_,_,h,_,_=>h.elim
 | _::_,[],_,_,h,_,_=>h.elim
theorem QN (H:∀b,S b->S2 b):∀{ps:List PV} {us:List Value} {L:List Nat} {q:Nat},bZ (kN S w J σ) ps us L->ps.all D3=true->lL w J2 σ2 q (qO ps) (gS ps us)->bC (GA S2 w J2 σ2) (aC9 q ps) us
 | [],[],L,q,h,_,_=>trivial
 | p::ps,u::us,L,q,⟨L1,L2,e,h1,h2⟩,I,hq=>by
  subst e
  rw[cI,aB]at I
  have D:lL w J2 σ2 q (WJ p++qO ps) (C6 p u++gS ps us):=hq
  by_cases z:∃cs,p= .agg cs
  ·obtain⟨cs,rfl⟩:=z
   obtain⟨vs,rfl,h3⟩:=h1
   have M:=(y3 h3 I.1).len
   exact⟨⟨vs,rfl,FE H h3 I.1 (lL.left M D)⟩,QN H h2 I.2 (lL.right M D)⟩
  ·have h1':gI S w J σ p u L1:=by cases p<;>first|exact h1|exact absurd ⟨_,rfl⟩ z
   have e1:WJ p=[p].filter cJ:=by cases p<;>first|rfl|exact absurd ⟨_,rfl⟩ z
   have e2:C6 p u=j8 [p] [u]:=by
    have:C6 p u=lW p u:=by cases p<;>first|rfl|exact absurd ⟨_,rfl⟩ z
    rw[this];show _=lW p u++ [];rw[bO]
   have e3:aMu q p=NU q p:=by cases p<;>first|rfl|exact absurd ⟨_,rfl⟩ z
   have R:[p].all (fun p=>cJ p||yJ p)=true:=by
    have:D3 p=(cJ p||yJ p):=by cases p<;>first|rfl|exact absurd ⟨_,rfl⟩ z
    rw[cI,gL,bE,<-this]
    exact I.1
   have W:bZ (gI S w J σ) [p] [u] L1:=⟨L1,[],(bO _).symm,h1',rfl⟩
   rw[e1,e2]at D
   have M:=(y3 W R).len
   have k1:=FE H W R (lL.left M D)
   have k2:=QN H h2 I.2 (lL.right M D)
   refine⟨?_,by rw[e1];exact k2⟩
   rw[e3]
   have Y:e9 S2 w J2 σ2 (NU q p) u:=k1.1
   unfold NU at Y⊢
   split
   ·rename_i hr;rw[hr]at Y;exact Y
   ·rename_i hr
    rw[hr]at Y
    cases p<;>first|exact Y|exact absurd ⟨_,rfl⟩ z
 | [],_::_,_,_,h,_,_=>h.elim
 | _::_,[],_,_,h,_,_=>h.elim
end
theorem aEl:∀(ps:List PV) (q:Nat),(aC9 q ps).length=ps.length
 | [],_=>rfl
 | p::ps,q=>by show(aC9 _ ps).length+1=_;rw[aEl ps];rfl
theorem aFe {E:World->Prop} {args:List PV} {exts:List (List PV)} {rx:Nat->Option (Value×Nat)} {few:locs.length<=49} {hG:∀b∈locs.map (·.1)++La++Le.flatten,G<=b} {hw:G<=w.heap.size} {cl:∀w w':World,E w->(∀b,b<G->w'.heap[b]?=w.heap[b]?)->E w'}
  {X:mM} (hX:X= {w0:=w,F:=locs.map (·.1)++La++Le.flatten,ext:=locs,lens:=exts.map List.length,E:=E,S:=S,few:=few,rx:=rx,G:=G,hG:=hG,hw:=hw,cl:=cl}) (hE:E w)
  (hl1:locs.length=exts.length) (hl2:Le.length=exts.length) (hnd:(locs.map (·.1)++La++Le.flatten).Nodup) (hF0:∀b∈locs.map (·.1)++La++Le.flatten,G<=b/\b<w.heap.size) (hS:∀b,S b->b<w.heap.size/\b∉locs.map (·.1)++La++Le.flatten)
  (I:bZ (kN S w (kO locs) (iF exts)) args us La) (hext:∀(j:Nat) p cs L,locs[j]?=some p->exts[j]?=some cs->Le[j]?=some L->F8 S w (kO locs) (iF exts) p cs L)
  (hlo:args.all D3=true) (hle:exts=[]) (hno:(qO args).length<=48) {nt:Nat} (hlen:args.length<=nt) (hrx:rx=fun q=>((gS args us)[q]?).bind fun u=>((qO args)[q]?).map fun p=>(u,SS p)) :
  ∃J N,St X (aA0 true args exts) w (us.toArray++Array.replicate (nt-us.toArray.size) undef) J N:=by
 subst hX
 subst hle
 obtain rfl:locs=[]:=aR hl1
 obtain rfl:Le=[]:=aR hl2
 simp only[iH,cV,List.flatten_nil,bO]at hnd hF0 hS
 let X:mM:= {w0:=w,F:=List.map (·.1) ([]:List (Nat×Nat))++La++List.flatten [],ext:=[],lens:=List.map List.length ([]:List (List PV)),E:=E,S:=S,few:=few,rx:=rx,G:=G,hG:=hG,hw:=hw,cl:=cl}
 have hXF:X.F=La:=by show List.map (·.1) ([]:List (Nat×Nat))++La++List.flatten []=La;simp
 have ho:=R6 I hlo
 obtain⟨Ls,e1,e2,e3⟩:=ho.lists
 have hgl:=ho.len
 let ps:=qO args
 let gs:=gS args us
 have hps:∀p∈ps,cJ p=true:=by
  have:∀as:List PV,∀p∈qO as,cJ p=true:=by
   intro as
   induction as with
   | nil=>intro p hp;cases hp
   | cons a as ih=>
    intro p hp
    rcases List.mem_append.1 hp with hp|hp
    ·cases a<;>exact(List.mem_filter.1 hp).2
    ·exact ih p hp
  exact this args
 let J:Nat->Option (Nat×Nat):=fun j=>match Nat.ble 50 j with
  | true=>(match gs[j-50]? with
   | some (.slice (some a) _ _)=>some (a.block,0)
   | _=>none)
  | false=>none
 let N:Nat->List Nat:=fun j=>(Ls[j-50]?).getD []
 have oG:∀id b,(YF ps id).blk=some b->∃q p u M,id=50+q/\ps[q]?=some p/\gs[q]?=some u/\Ls[q]?=some M/\gI S w (kO []) (iF []) p u M/\aJg p=some b/\cJ p=true/\YF ps id=⟨0,some b⟩:=fun id b e=>by
  unfold YF at e
  split at e
  ·rename_i h50
   have h50:=bY h50
   split at e
   ·rename_i p hp
    obtain⟨u,M,q1,q2,q3⟩:=e3 _ _ hp
    refine⟨id-50,p,u,M,by omega,hp,q1,q2,q3,e,hps p (tF hp),?_⟩
    unfold YF
    rw[show Nat.ble 50 id=true from Nat.ble_eq▸h50]
    simp only[hp]
    rw[show aJg p=some b from e]
   ·cases e
  ·cases e
 have hbeta:∀q u,gs[q]?=some u->J (50+q)=match u with
   | .slice (some a) _ _=>some (a.block,0)
   | _=>none:=fun q u Y=>by
  show(match Nat.ble 50 (50+q)with|true=>_|false=>_)=_
  rw[show Nat.ble 50 (50+q)=true from Nat.ble_eq▸(by omega)]
  simp only[jG,Y]
  cases u<;>try rfl
  rename_i a _ _;cases a<;>rfl
 have hrow:∀q p u M,gs[q]?=some u->gI S w (kO []) (iF []) p u M->cJ p=true->∃blk k l,aJg p=some blk/\kR blk k l/\l.length=SS p/\(∀σ,yE S w J σ M (50+q) blk)/\((J (50+q)=none/\l=[]/\u= .slice none 0 0)∨∃b cap cur,J (50+q)=some (b,0)/\u= .slice (some ⟨b,0,none⟩) l.length cap/\gY w b cur (mJ k)/\l.length<=cap/\cur.size=cap*size k):=fun q p u M Y ho hr=>by
  have e:=hbeta q u Y
  rcases JJ hr with⟨k,l,rfl⟩ |⟨k,l,rfl⟩
  ·refine⟨_,k,l,rfl,.b,rfl,fun σ=> ?_,?_⟩
   ·rcases ho with⟨rfl,R,H⟩ |⟨g,cap,cur,rfl,H,z⟩
    ·exact .inl ⟨e,R,H⟩
    ·exact .inr ⟨g,cap,cur,e,H,z⟩
   ·rcases ho with⟨rfl,R,H⟩ |⟨g,cap,cur,rfl,H,z,h4,W,h6,h7,h8⟩
    ·exact .inl ⟨e,R,rfl⟩
    ·exact .inr ⟨g,cap,cur,e,rfl,h4,W,h7⟩
  ·refine⟨_,k,l,rfl,.d,rfl,fun σ=> ?_,?_⟩
   ·rcases iO.1 ho with⟨rfl,R,H⟩ |⟨g,cap,cur,L',rfl,H,z⟩
    ·exact .inl ⟨e,R,H⟩
    ·exact .inr ⟨g,cap,cur,L',e,H,z⟩
   ·rcases iO.1 ho with⟨rfl,R,H⟩ |⟨g,cap,cur,L',rfl,H,z,h4,W,h6,h7,h8⟩
    ·exact .inl ⟨e,R,rfl⟩
    ·exact .inr ⟨g,cap,cur,e,rfl,h4,W,h7⟩
 have hLs:Ls.flatten.Nodup:=by rw[e1];exact hnd
 have hN:∀q M,Ls[q]?=some M->N (50+q)=M:=fun q M h=>by show(Ls[50+q-50]?).getD []=M;rw[jG,h];rfl
 have hM:∀q M,Ls[q]?=some M->∀x∈M,x∈La:=fun q M h x hx=>by rw[<-e1];exact List.mem_flatten.2 ⟨M,tF h,hx⟩
 have st0:lN X S ⟨fun _=> .dead,YF ps⟩ w (us.toArray++Array.replicate (nt-us.toArray.size) undef) J N:=by
  refine⟨fun t u Y=>trivial,fun id b e=> ?_,fun id b e x hx=> ?_,fun id b e=> ?_,fun id id' b b' e hb' hne x hx hx'=> ?_,fun id b e x hx=> ?_,(fun j p hp=>by cases hp),fun q u n hq=> ?_,⟨rfl,rfl,rfl,bB _,fun _ _ _=>rfl,(fun j b off n hj hn=>by cases hj)⟩,hE,fun b e=>⟨(hS b e).1,fun⟨id,bl,R,H⟩=> ?_,.inl e⟩⟩
  ·obtain⟨q,p,u,M,rfl,R,H,z,h4,W,h6,h7⟩:=oG id b e
   obtain⟨blk,k,l,k1,k2,k3,k4,k5⟩:=hrow q p u M H h4 h6
   rw[W]at k1;cases k1
   rw[hN q M z]
   exact k4 _
  ·obtain⟨q,p,u,M,rfl,R,H,z,h4,W,h6,h7⟩:=oG id b e
   rw[hN q M z]at hx
   exact(hF0 x (hM q M z x hx)).2
  ·obtain⟨q,p,u,M,rfl,R,H,z,h4,W,h6,h7⟩:=oG id b e
   rw[hN q M z]
   exact(List.pairwise_flatten.1 hLs).1 M (tF z)
  ·obtain⟨q,p,u,M,rfl,R,H,z,h4,W,h6,h7⟩:=oG id b e
   obtain⟨q',p',u',M',rfl,h1',h2',h3',h4',h5',h6',h7'⟩:=oG id' b' hb'
   rw[hN q M z]at hx
   rw[hN q' M' h3']at hx'
   have hp:=(List.pairwise_flatten.1 hLs).2
   have hql:=(iR.1 z).1
   have hql':=(iR.1 h3').1
   have ev:Ls[q]=M:=by simpa [hql]using z
   have ev':Ls[q']=M':=by simpa [hql']using h3'
   rcases Nat.lt_or_gt_of_ne (show q≠q' by omega)with hlt|hlt
   ·exact(List.pairwise_iff_getElem.1 hp q q' hql hql' hlt) x (ev▸hx) x (ev'▸hx') rfl
   ·exact(List.pairwise_iff_getElem.1 hp q' q hql' hql hlt) x (ev'▸hx') x (ev▸hx) rfl
  ·obtain⟨q,p,u,M,rfl,R,H,z,h4,W,h6,h7⟩:=oG id b e
   rw[hN q M z]at hx
   exact .inl (by rw[hXF];exact hM q M z x hx)
  ·have hq:rx q=some (u,n):=hq
   rw[hrx]at hq
   simp only[aC,Option.map_eq_some_iff]at hq
   obtain⟨u0,hu0,p,hp,hq⟩:=hq
   cases hq
   obtain⟨u',M,q1,q2,q3⟩:=e3 _ _ hp
   rw[show(gS args us)[q]?=some u from hu0]at q1;cases q1
   have hql:=(iR.1 hp).1
   obtain⟨blk,k,l,k1,k2,k3,k4,k5⟩:=hrow q p u M hu0 q3 (hps p (tF hp))
   have hs:YF ps (50+q)=⟨0,some blk⟩:=by
    unfold YF
    rw[show Nat.ble 50 (50+q)=true from Nat.ble_eq▸(by omega)]
    simp only[jG,show ps[q]?=some p from hp,k1]
   refine⟨by omega,blk,k,l,hs,k2,k3,?_⟩
   rw[<-k3]
   exact KM hs k2 k5
  ·obtain⟨q,p,u,M,rfl,z,h4,W,h6,h7⟩:=oG id bl R
   rw[hN q M W]at H
   exact(hS b e).2 (hM q M W b H)
 obtain⟨D,T3⟩:=st0.close
 have hlent:lL w J (YF ps) 50 ps gs:=fun j p u hp Y=>by
  obtain⟨_,blk,k,l,k1,k2,k3,k4⟩:=st0.rxt j u (SS p) (by
   show rx j=_
   rw[hrx]
   simp only[show(gS args us)[j]?=some u from Y,show(qO args)[j]?=some p from hp]
   rfl)
  exact k4
 have v1:=QN (S2:=S) (fun b e=>e) I hlo hlent
 have hul:us.length=args.length:=(bZ.len I).symm
 refine⟨J,N,fun i u Y=> ?_,D.blk,D.lt,D.nodup,D.disj,D.new,D.ext,D.rxt,D.frm,D.env,D.fz⟩
 show gM _ _ _ _ (((aC9 50 args)[i]?).getD .un) u
 have hlen2:=aEl args 50
 by_cases ht:i<args.length
 ·have hu2:us[i]?=some u:=by
   have:(us.toArray++Array.replicate (nt-us.toArray.size) undef)[i]?=us.toArray[i]?:=gG (by simp;omega)
   rw[this]at Y;simpa using Y
  obtain⟨u',hu',hv⟩:=v1.get i (aC9 50 args)[i] (by simp[hlen2,ht])
  rw[hu2]at hu';cases hu'
  rw[iD (by omega),Option.getD_some]
  exact T3.vc (WZ hv)
 ·rw[dF (by omega)]
  have:(us.toArray++Array.replicate (nt-us.toArray.size) undef)[i]?=(Array.replicate (nt-us.toArray.size) undef)[i-us.toArray.size]?:=Array.getElem?_append_right (by simp;omega)
  rw[this]at Y
  exact(Array.mem_replicate.1 (Array.mem_of_getElem? Y)).2
theorem WC:∀(ps:List PV) (q:Nat),(WB q ps).length=ps.length
 | [],_=>rfl
 | p::ps,q=>by show(WB _ ps).length+1=_;rw[WC ps];rfl
theorem aJl {gs:List Value} (h:DL S w J σ p u L):OW S w J σ gs p u L:=by
 cases p<;>first|exact h|exact h.2.elim
theorem hO.mk (hF:fT P) {E:World->Prop} (hcl:∀w w':World,E w->(∀b,b<G->w'.heap[b]?=w.heap[b]?)->E w') {fn:Func} {c:Code} (hf:P.funcs[f]?=some fn) (hname:(fn.name== "runtime.NumGoroutine")=false) (hb:fn.body=some c) {ln:Bool} {args rT bT:List PV} {exts:List (List PV)} (H:aHx ln args exts.length=true) (R:exts.all (fun cs=>cs.all vY)=true) (hlen:args.length<=fn.ntmps) (hne:exts.length<=49) (hnc:∀cs∈exts,cs.length<=1000) (hal:args.length<=1000)
  (h:∀X:mM,X.E=E->X.ext.length=exts.length->X.G=G->(∀q u n,X.rx q=some (u,n)->q<(M8 ln args).length)->XW P X fn.ntmps c (aA0 ln args exts) (aMA fn.ntmps fn.results.toList exts.length (M8 ln args) rT bT exts')) (hel:exts'.map List.length=exts.map List.length):hO P G E f args exts (aMp ln (aBg rT) bT) exts':=by
 refine⟨hel,fun w S us locs La Le hG hE W hl2 Y hF0 hS z hext=> ?_⟩
 have hul:us.length=args.length:=(bZ.len z).symm
 let rx:Nat->Option (Value×Nat):=match ln with
  | true=>fun q=>((gS args us)[q]?).bind fun u=>((qO args)[q]?).map fun p=>(u,SS p)
  | false=>fun _=>none
 let X:mM:= {w0:=w,F:=locs.map (·.1)++La++Le.flatten,ext:=locs,lens:=exts.map List.length,E:=E,S:=S,few:=by omega,rx:=rx,G:=G,hG:=fun b hb=>(hF0 b hb).1,hw:=hG,cl:=hcl}
 have hlocnd:(locs.map (·.1)).Nodup:=by rw[aQ]at Y;exact(List.nodup_append.1 Y).1
 have I:ln=true->args.all D3=true/\(qO args).length<=48/\exts.length=0:=fun e=>by
  subst e
  have H:(args.all D3&&Nat.ble (qO args).length 48&&Nat.beq exts.length 0)=true:=H
  simp only[aB]at H
  exact⟨H.1.1,bY H.1.2,aS H.2⟩
 obtain⟨J2,N2,hst⟩:∃J N,St X (aA0 ln args exts) w (us.toArray++Array.replicate (fn.ntmps-us.toArray.size) undef) J N:=by
  cases ln with
  | false=>exact aFf (rx:=rx) rfl hE W hl2 Y hF0 hS z hext H R hlen hne hnc hal rfl
  | true=>
   obtain⟨q1,q2,q3⟩:=I rfl
   exact aFe (rx:=rx) rfl hE W hl2 Y hF0 hS z hext q1 (aR q3) q2 hlen rfl
 have hrxl:∀q u n,X.rx q=some (u,n)->q<(M8 ln args).length:=fun q u n hq=>by
  cases ln with
  | false=>cases hq
  | true=>
   have hq:(((gS args us)[q]?).bind fun u=>((qO args)[q]?).map fun p=>(u,SS p))=some (u,n):=hq
   simp only[aC,Option.map_eq_some_iff]at hq
   obtain⟨u0,hu0,p,hp,hq⟩:=hq
   show q<(WB 50 (qO args)).length
   rw[WC]
   exact(iR.1 hp).1
 refine jQ.of hf hname hb (calls_of_wp hf hb (wp_mono (h X rfl W rfl hrxl _ w ⟨by simp;omega,rfl,J2,N2,hst⟩) fun e a' w' hq=> ?_))
 obtain⟨Z',⟨hs',hd',J,N,M⟩,D⟩:=hq
 have hgs:∃gs,bC (e9 (Fz X w' N Z'.s) w' J Z'.s) (M8 ln args) gs/\(ln=true->gs=gS args us):=by
  cases ln with
  | false=>exact⟨[],trivial,fun h=>by cases h⟩
  | true=>
   obtain⟨q1,q2,q3⟩:=I rfl
   have ho:=R6 z q1
   refine⟨gS args us,lL.refs (fun j p u hp hu=> ?_) ho.len,fun _=>rfl⟩
   exact(M.rxt j u (SS p) (by
    show(((gS args us)[j]?).bind fun u=>((qO args)[j]?).map fun p=>(u,SS p))=_
    rw[hu,hp];rfl)).2.choose_spec.choose_spec.choose_spec.2.2.2
 obtain⟨gs,hgs1,hgs2⟩:=hgs
 cases e
 case exit=>exact D.elim
 case goto=>exact D.elim
 case panic=>exact D.elim
 case outgrown=>exact D.elim
 all_goals
  obtain⟨vs,cs,qs,A,B,h1,h2,h3,h4,h5,h6⟩:=D
  obtain⟨us',hus,hall'⟩:=aBE hF M hs' h1
  refine⟨hd',_,aBF hus,?_⟩
  obtain⟨L1,L3,Le',k1,k2,k3,k4,k5,k6,k7⟩:=aHi W hlocnd hel rfl M hgs1 hall' h2 h3 h4 h5 h6
  cases ln with
  | false=>
   have hg0:gs.length=0:=(bC.len hgs1).symm
   obtain rfl:=aR hg0
   obtain rfl:=aR (bZ.len k5)
   obtain rfl:L3=[]:=k5
   rw[bO]at k2 k3 k4 k6
   exact⟨_,L1,Le',rfl,k1,k2,k3,aJl k4,k6,k7⟩
  | true=>
   refine⟨_,L1++L3,Le',rfl,k1,k2,k3,⟨L1,L3,rfl,k4,?_⟩,k6,k7⟩
   rw[hgs2 rfl]at k5
   exact k5
end
open Go.RowKit
section
variable {w:World} {J:Nat->Option (Nat×Nat)} {σ:cU}
theorem kN.tr (T:Tr S S' w w J J' σ σ') (z:∀b,S b->S' b) (h:gI S w J σ p u L):gI S' w J' σ' p u L:=by
 cases p with
 | row own k l=>cases own with
  | true=>exact G6.mono h (fun _ _=>rfl) z fun _ _ _ _ h=>h
  | false=>exact⟨h.1,T.vs h.2⟩
 | v x=>exact⟨h.1,T.vs (p:= .v x) h.2⟩
 | nil=>exact⟨h.1,T.vs (p:= .nil) h.2⟩
 | ref a b c d e=>exact⟨h.1,T.vs (p:= .ref a b c d e) h.2⟩
 | ptr a b c d=>exact⟨h.1,T.vs (p:= .ptr a b c d) h.2⟩
 | eptr k l i j=>exact⟨h.1,T.vs (p:= .eptr k l i j) h.2⟩
 | agg cs=>exact⟨h.1,T.vs (p:= .agg cs) h.2⟩
 | tup cs=>exact⟨h.1,T.vs (p:= .tup cs) h.2⟩
 | fn f caps=>exact⟨h.1,T.vs (p:= .fn f caps) h.2⟩
 | un=>exact⟨h.1,T.vs (p:= .un) h.2⟩
 | obj o=>exact h
 | drow k l=>exact h
 | gb r b=>exact⟨h.1,T.vs (p:= .gb r b) h.2⟩
 | dead=>exact⟨h.1,trivial⟩
theorem kN.tr1 (T:Tr S S' w w J J' σ σ') (D:∀b,S b->S' b) (h:kN S w J σ p u L):kN S' w J' σ' p u L:=by
 by_cases z:∃cs,p= .agg cs
 ·obtain⟨cs,rfl⟩:=z
  obtain⟨us,e,h⟩:=h
  exact⟨us,e,bZ.mono (fun a b L' _ h=>kN.tr T D h) h⟩
 ·have H:gI S w J σ p u L:=by cases p<;>first|exact h|exact absurd ⟨_,rfl⟩ z
  have:=kN.tr T D H
  cases p<;>first|exact this|exact absurd ⟨_,rfl⟩ z
theorem aI7 {exts exts2:List (List PV)} (Y:exts2.length=exts.length):Tr S S w w (kO locs) (kO locs) (iF exts) (iF exts2):=by
 refine⟨fun h=>h,fun{id ver off n full u} D=> ?_,fun{id ver i j u} W=> ?_⟩
 ·obtain⟨z,H,R⟩:=D
  refine⟨?_,H,fun blk k l e D=> ?_⟩
  ·have:(iF exts id).ver=0:=by unfold iF;split<;>rfl
   rw[this]at z
   have I:(iF exts2 id).ver=0:=by unfold iF;split<;>rfl
   rw[I];exact z
  ·unfold iF at e;split at e<;>cases e<;>cases D
 ·obtain⟨z,H,R⟩:=W
  refine⟨?_,H,fun blk e=> ?_⟩
  ·have:(iF exts id).ver=0:=by unfold iF;split<;>rfl
   rw[this]at z
   have I:(iF exts2 id).ver=0:=by unfold iF;split<;>rfl
   rw[I];exact z
  ·unfold iF at e
   split at e
   ·rename_i cs M
    cases e
    have hj:=(iR.1 M).1
    have:=R (.box (exts[id]'(by omega))) (by unfold iF;rw[iD (by omega)])
    exact this
   ·cases e
theorem aAr {S:Nat->Prop}:∀{exts exts2:List (List PV)} {Le:List (List Nat)} {locs:List (Nat×Nat)},Le.length=exts.length->Le.flatten.Nodup->bC (bC W4) exts exts2->
  (∀(j:Nat) p cs L,locs[j]?=some p->exts[j]?=some cs->Le[j]?=some L->F8 S w J σ p cs L)->locs.length=exts.length->
  ∃Le':List (List Nat),Le'.length=Le.length/\Le'.flatten.Sublist Le.flatten/\∀S2:Nat->Prop,(∀b,S b->S2 b)->(∀b∈Le.flatten,b∉Le'.flatten->S2 b)->
   ∀(j:Nat) p cs L,locs[j]?=some p->exts2[j]?=some cs->Le'[j]?=some L->F8 S2 w J σ p cs L
 | [],exts2,Le,locs,H,_,hx,_,_=>by
  obtain rfl:Le=[]:=aR H
  exact⟨[],rfl,j5 _,fun _ _ _ j p cs L _ _ h=>by simp at h⟩
 | c::exts,c2::exts2,L::Le,p::locs,H,D,⟨h1,h2⟩,e,I=>by
  rw[dE]at D
  obtain⟨n1,n2,n3⟩:=List.nodup_append.1 D
  obtain⟨Le',q1,q2,q3⟩:=aAr (by simpa using H) n2 h2 (fun j p cs L a b c=>e (j+1) p cs L (by simpa using a) (by simpa using b) (by simpa using c)) (by simpa using I)
  obtain⟨cur,E,us,b1,b2,b3,b4⟩:=e 0 p c L rfl rfl rfl
  obtain⟨L',s,k⟩:=bZ.wk (R:=fun S p u L=>gI S w J σ p u L) (fun p q u L D h ho=>aAc D h ho) n1 h1 b4
  refine⟨L'::Le',by simp[q1],by simpa using s.append q2,fun S2 hS hd j p' cs M W Y hM=> ?_⟩
  have hd1:∀b∈L,b∉L'->S2 b:=fun b e z=>hd b (by simp[e]) (by
   rw[dE,pE]
   rintro(h|h)
   ·exact z h
   ·exact n3 b e b (q2.mem h) rfl)
  cases j with
  | zero=>
   simp at W Y hM;subst W Y hM
   exact⟨cur,E,us,b1,by rw[<-bC.len h1];exact b2,b3,k S2 hS hd1⟩
  | succ j=>exact q3 S2 hS (fun b e z=>hd b (by simp[List.mem_flatten.1 e]) (by
    rw[dE,pE]
    rintro(h|h)
    ·exact n3 b (s.mem h) b e rfl
    ·exact z h)) j p' cs M (by simpa using W) (by simpa using Y) (by simpa using hM)
 | _::_,[],_,_,_,_,h,_,_=>h.elim
 | _::_,_::_,[],_,h,_,_,_,_=>by cases h
 | _::_,_::_,_::_,[],_,_,_,_,h=>by cases h
end
theorem bC.lens:∀{a b:List (List PV)},bC (bC W4) a b->b.map List.length=a.map List.length
 | [],[],_=>rfl
 | _::_,_::_,⟨e,z⟩=>by simp[bC.len e,bC.lens z]
 | [],_::_,h=>h.elim
 | _::_,[],h=>h.elim
def KR:PV->Bool×List Bool
 | .agg cs=>(true,cs.map cJ)
 | p=>(false,[cJ p])
theorem WT:∀{cs ds:List PV} {us:List Value},cs.map cJ=ds.map cJ->j8 cs us=j8 ds us
 | [],[],_,_=>by cases ‹List Value› <;>rfl
 | c::cs,d::ds,[],_=>rfl
 | c::cs,d::ds,u::us,h=>by
  simp only[bR,List.cons.injEq]at h
  show lW c u++j8 cs us=lW d u++j8 ds us
  rw[WT h.2]
  unfold lW
  rw[h.1]
 | [],_::_,_,h=>by cases h
 | _::_,[],_,h=>by cases h
theorem aBO:∀{as bs:List PV} {us:List Value},as.map KR=bs.map KR->gS as us=gS bs us
 | [],[],us,_=>by cases us<;>rfl
 | a::as,b::bs,[],_=>rfl
 | a::as,b::bs,u::us,h=>by
  simp only[bR,List.cons.injEq]at h
  show C6 a u++gS as us=C6 b u++gS bs us
  rw[aBO h.2]
  congr 1
  have e:=h.1
  by_cases z:∃cs,a= .agg cs
  ·obtain⟨cs,rfl⟩:=z
   have D:∃ds,b= .agg ds:=by cases b<;>first|exact⟨_,rfl⟩ | cases e
   obtain⟨ds,rfl⟩:=D
   have e:cs.map cJ=ds.map cJ:=by injection e
   cases u<;>first|exact WT e|rfl
  ·have D:¬∃ds,b= .agg ds:=by
    rintro⟨ds,rfl⟩
    cases a<;>first|exact z ⟨_,rfl⟩ | cases e
   have M:cJ a=cJ b:=by
    have H:KR a=(false,[cJ a]):=by cases a<;>first|rfl|exact absurd ⟨_,rfl⟩ z
    have I:KR b=(false,[cJ b]):=by cases b<;>first|rfl|exact absurd ⟨_,rfl⟩ D
    rw[H,I]at e
    simpa using e
   have H:C6 a u=lW a u:=by cases a<;>first|rfl|exact absurd ⟨_,rfl⟩ z
   have I:C6 b u=lW b u:=by cases b<;>first|rfl|exact absurd ⟨_,rfl⟩ D
   rw[H,I]
   unfold lW
   rw[M]
 | [],_::_,_,h=>by cases h
 | _::_,[],_,h=>by cases h
theorem OW.up {S1 S2:Nat->Prop} {w:World} {J:Nat->Option (Nat×Nat)} {σ:cU} {gs:List Value} {p:PV} {u:Value} {L:List Nat} (h:OW S1 w J σ gs p u L) (z:∀b,S1 b->S2 b):OW S2 w J σ gs p u L:=by
 by_cases D:∃r b,p= .gb r b
 ·obtain⟨r,b,rfl⟩:=D
  obtain⟨L1,L2,e,H,I⟩:=h
  exact⟨L1,L2,e,H.up z,bZ.mono (fun a b L' _ h=>gI.up h z) I⟩
 ·have M:DL S1 w J σ p u L:=by cases p<;>first|exact h|exact absurd ⟨_,_,rfl⟩ D
  have:=DL.up M z
  cases p<;>first|exact this|exact absurd ⟨_,_,rfl⟩ D
theorem OW.gs {S1:Nat->Prop} {w:World} {J:Nat->Option (Nat×Nat)} {σ:cU} {gs gs':List Value} {p:PV} {u:Value} {L:List Nat} (h:OW S1 w J σ gs p u L) (e:TX p=false∨gs=gs'):OW S1 w J σ gs' p u L:=by
 rcases e with e|rfl
 ·cases p<;>first|exact h|cases e
 ·exact h
theorem hO.argsX {P:Program} {E:World->Prop} {as bs:List PV} {exts exts2:List (List PV)} {r:PV} (h:hO P G E f bs exts2 r exts') (hw:bC OT as bs) (hx:bC (bC W4) exts exts2) (hg:TX r=false∨as.map KR=bs.map KR):hO P G E f as exts r exts':=by
 have H:=hx.lens
 have W:exts2.length=exts.length:=by have:=congrArg List.length H;simpa using this
 refine⟨by rw[h.1,H],fun w S us locs La Le hG hE hl1 hl2 hnd hF0 hS hargs hext=> ?_⟩
 have Y:=hnd
 rw[aQ]at Y
 obtain⟨m1,m2,m3⟩:=List.nodup_append.1 Y
 obtain⟨m4,m5,m6⟩:=List.nodup_append.1 m2
 obtain⟨La',s1,k1⟩:=bZ.wk (R:=fun S p u L=>kN S w (kO locs) (iF exts) p u L) (fun p q u L hn h ho=>aEI hn h ho) m4 hw hargs
 obtain⟨Le',q1,s2,k2⟩:=aAr hl2 m5 hx hext hl1
 let S2:Nat->Prop:=fun b=>S b∨(b∈La++Le.flatten/\b∉La'++Le'.flatten)
 have I:(La'++Le'.flatten).Sublist (La++Le.flatten):=s1.append s2
 have D:(locs.map (·.1)++La'++Le'.flatten).Sublist (locs.map (·.1)++La++Le.flatten):=by
  rw[aQ,aQ];exact(List.Sublist.refl _).append I
 have d1:∀b∈La,b∉La'->S2 b:=fun b z M=> .inr ⟨bJ _ z,fun h=>(List.mem_append.1 h).elim M fun h=>m6 b z b (s2.mem h) rfl⟩
 have d2:∀b∈Le.flatten,b∉Le'.flatten->S2 b:=fun b z M=> .inr ⟨bG _ z,fun h=>(List.mem_append.1 h).elim (fun h=>m6 b (s1.mem h) b z rfl) M⟩
 have T:Tr S2 S2 w w (kO locs) (kO locs) (iF exts) (iF exts2):=aI7 W
 have hS2:∀b,S2 b->b<w.heap.size/\b∉locs.map (·.1)++La'++Le'.flatten:=by
  rintro b (z|⟨z,M⟩)
  ·exact⟨(hS b z).1,fun h=>(hS b z).2 (D.mem h)⟩
  ·refine⟨(hF0 b (by rw[aQ];exact bG _ z)).2,fun h=> ?_⟩
   rw[aQ]at h
   rcases List.mem_append.1 h with h|h
   ·exact m3 b h b z rfl
   ·exact M h
 refine jQ.mono (h.2 w S2 us locs La' Le' hG hE (by rw[hl1,W]) (by rw[q1,hl2,W]) (D.nodup hnd) (fun b z=>hF0 b (D.mem z)) hS2 (bZ.mono (fun a b L' _ h=>kN.tr1 T (fun _ h=>h) h) (k1 S2 (fun _ h=> .inl h) d1)) fun j p cs L hp hc hL=> ?_) fun e w' hq=> ?_
 ·obtain⟨cur,E0,us0,b1,b2,b3,b4⟩:=k2 S2 (fun _ h=> .inl h) d2 j p cs L hp hc hL
  exact⟨cur,E0,us0,b1,b2,b3,bZ.mono (fun a b L' _ h=>kN.tr T (fun _ h=>h) h) b4⟩
 ·obtain⟨u,Lr,Le2,e1,e2,e3,e4,e5,e6,e7⟩:=hq
  have up:∀b,S2 b∨b∈La'++Le'.flatten∨w.heap.size<=b->S b∨b∈La++Le.flatten∨w.heap.size<=b:=by
   rintro b ((h|h)|h|h)
   ·exact .inl h
   ·exact .inr (.inl h.1)
   ·exact .inr (.inl (I.mem h))
   ·exact .inr (.inr h)
  refine⟨u,Lr,Le2,e1,by rw[e2,W],e3,fun b z=> ?_,(e5.up fun b z=>⟨up b z.1,z.2⟩).gs (hg.imp id fun h=>(aBO h).symm),fun j p cs L hp hc hL=> ?_,⟨e7.os,e7.tape,e7.output,e7.size,fun b z hn=>e7.old b z fun h=>hn (D.mem h),fun j b off n hj hn=> ?_⟩⟩
  ·obtain⟨a1,a2⟩:=e4 b z
   exact⟨a1.imp (fun h=>I.mem h) id,a2⟩
  ·obtain⟨cur,E0,us0,b1,b2,b3,b4⟩:=e6 j p cs L hp hc hL
   exact⟨cur,E0,us0,b1,b2,b3,bZ.mono (fun a b L' _ h=>h.up fun b z=>⟨up b z.1,z.2⟩) b4⟩
  ·exact e7.part j b off n hj (by rw[H];exact hn)
open Go.RowKit
def aEj:d4->PV
 | .sc v=> .v v
 | .nest k l=>match flat k with
  | true=> .row true k l
  | false=> .drow k l
def M7:d4->PV
 | .sc v=> .v v
 | .nest _ _=> .dead
def fid (id:Nat):Nat:=1000000000000000+10000000000*id
def aCT {α:Type} (id i:Nat) (next:List PV->eM α):eM α:= .rd id fun e=>match e with
 | ⟨ver,some (.rowd k l)⟩=> .opt l[i]? fun x=> .wr id ⟨ver,some (.rowx k l i ((aG x).map M7))⟩ ((RY (fid id) ((aG x).map aEj)).bind fun qs=> .wr id ⟨ver,some (.rowx k l i qs)⟩ (next qs))
 | _=> .fail
section
variable {P:Program} {PC:rU} {X:mM} {nt:Nat} {Q:Exit->Act->World->Prop} {Z:gU} {a:Act} {w:World} {o:Oper} {v:PV} {t:Nat->PV} {s s':cU} {r wr:List Nat}
theorem iE.one {lf:d4} (h:iE w lf u L):u.oneCell'=true:=by
 cases lf with
 | sc q=>
  obtain⟨⟨rfl,e⟩,_⟩:=h
  exact HK (p:= .v u) (S:=fun _=>True) (w:=w) (J:=fun _=>none) (σ:=fun _=>⟨0,none⟩) rfl ⟨rfl,e⟩
 | nest k l=>
  rcases iO.1 h with⟨rfl,_,_⟩ |⟨g,cap,cur,L',rfl,_,_⟩ <;>rfl
theorem bZ.nilL {as:List d4}:∀{us:List Value} {L:List Nat},(∀lf∈as,∃q,lf= .sc q)->bZ (iE w) as us L->L=[]:=by
 induction as with
 | nil=>intro us L _ h;cases us with
  | nil=>exact h
  | cons=>exact h.elim
 | cons a as ih=>
  intro us L z h
  cases us with
  | nil=>exact h.elim
  | cons u us=>
   obtain⟨L1,L2,e,D,H⟩:=h
   obtain⟨q,rfl⟩:=z a (aN ..)
   obtain rfl:=ih (fun lf I=>z lf (aI _ I)) H
   rw[e,D.2];rfl
theorem rQ.flat {S:Nat->Prop} {k:K} (I:Go.Px.flat k=true) {u:Value} {l:List (ty k)} {L:List Nat} (h:rQ w k u l L):G6 S w k u l L:=by
 rcases iO.1 h with⟨D,H,z⟩ |⟨g,cap,cur,L',D,H,z⟩
 ·exact .inl ⟨D,H,z⟩
 ·have e:L'=[]:=bZ.nilL (fun lf M=>by
   obtain⟨x,_,R⟩:=List.mem_flatMap.1 M
   exact X4 I x lf R) z.2.2.2.2.2
  subst e
  exact .inr ⟨g,cap,cur,D,H,z.cont fun b W=>by cases W⟩
theorem iE.own {lf:d4} (h:iE w lf u L):gI S w J σ (aEj lf) u L:=by
 cases lf with
 | sc q=>exact⟨h.2,h.1⟩
 | nest k l=>
  show gI S w J σ (match flat k with|true=> .row true k l|false=> .drow k l) u L
  cases e:flat k with
  | true=>exact rQ.flat e h
  | false=>exact h
theorem bZ.map {α α' J:Type} {R:α->J->List Nat->Prop} {R':α'->J->List Nat->Prop} {f:α->α'} (h:∀a b L,R a b L->R' (f a) b L):∀{as:List α} {bs:List J} {L:List Nat},bZ R as bs L->bZ R' (as.map f) bs L
 | [],[],_,h=>h
 | _::_,_::_,_,⟨L1,L2,e,z,D⟩=>⟨L1,L2,e,h _ _ _ z,bZ.map h D⟩
 | [],_::_,_,h=>h.elim
 | _::_,[],_,h=>h.elim
theorem bZ.get {α J:Type} {R:α->J->List Nat->Prop}:∀{as:List α} {bs:List J} {L:List Nat},bZ R as bs L->∀(i:Nat) a,as[i]?=some a->∃b L',bs[i]?=some b/\(∀x∈L',x∈L)/\R a b L'
 | a::as,b::bs,L,⟨L1,L2,e,D,H⟩,0,x,z=>by simp at z;subst z;exact⟨b,L1,rfl,fun x z=>by rw[e];simp[z],D⟩
 | a::as,b::bs,L,⟨L1,L2,e,D,H⟩,i+1,x,z=>by
  obtain⟨I,L',M,q2,q3⟩:=bZ.get H i x (by simpa using z)
  exact⟨I,L',by simpa using M,fun x z=>by rw[e];simp[q2 x z],q3⟩
 | [],[],_,_,i,x,z=>by simp at z
 | [],_::_,_,h,_,_,_=>h.elim
 | _::_,[],_,h,_,_,_=>h.elim
theorem DAt.cut {b:Nat} {k:K} {l:List (ty k)} {cap:Nat} {cur:Array Value} {L:List Nat} (h:DAt w b l cap cur L) {i:Nat} {x:ty k} (I:l[i]?=some x) :
  ∃L1 Lx L2,L=L1++(Lx++L2)/\bZ (iE w) ((l.take i).flatMap aG) (cur.toList.take (i*size k)) L1/\bZ (iE w) (aG x) ((cur.toList.drop (i*size k)).take (size k)) Lx/\
   bZ (iE w) ((l.drop (i+1)).flatMap aG) ((cur.toList.take (l.length*size k)).drop ((i+1)*size k)) L2:=by
 obtain⟨h1,h2,h3,h4,h5,M⟩:=h
 have hi:=(iR.1 I).1
 have el:l=l.take i++x::l.drop (i+1):=by
  obtain⟨_,e⟩:=iR.1 I
  rw[<-e,List.getElem_cons_drop,fW]
 have hle:l.length*size k<=cur.size:=by rw[h5];exact bF _ h3
 have R:i*size k+size k<=l.length*size k:=by
  have:(i+1)*size k<=l.length*size k:=bF _ (by omega)
  rw[cF]at this;omega
 have ef:l.flatMap aG=(l.take i).flatMap aG++(aG x++(l.drop (i+1)).flatMap aG):=by
  conv=>lhs;rw[el]
  rw[cH,dD]
 rw[ef]at M
 obtain⟨W,b2,L1,L2,Y,e2,k1,k2⟩:=bZ.cut M
 obtain⟨H,b4,L3,L4,e3,e4,k3,k4⟩:=bZ.cut k2
 subst e3 e4
 have z:W.length=i*size k:=by rw[<-k1.len,yW,aF];rw[fQ (by omega)]
 have D:H.length=size k:=by rw[<-k3.len,cP]
 have c1:W=cur.toList.take (i*size k):=by
  have:=congrArg (List.take (i*size k)) Y
  rw[nU,fQ (by omega),<-z,List.take_left]at this
  rw[<-this,z]
 have c2:H++b4=(cur.toList.take (l.length*size k)).drop (i*size k):=by
  have:=congrArg (List.drop (i*size k)) Y
  rw[<-z,List.drop_left]at this
  rw[<-this,z]
 have c3:H=(cur.toList.drop (i*size k)).take (size k):=by
  have:=congrArg (List.take (size k)) c2
  rw[<-D,List.take_left]at this
  rw[this,D,List.drop_take,nU,fQ (by omega)]
 have c4:b4=(cur.toList.take (l.length*size k)).drop ((i+1)*size k):=by
  have:=congrArg (List.drop (size k)) c2
  rw[<-D,List.drop_left,kH]at this
  rw[this,D,cF,Nat.one_mul]
 exact⟨L1,L3,L4,e2,c1▸k1,c3▸k3,c4▸k4⟩
end
open Go.RowKit
section
variable {P:Program} {PC:rU} {X:mM} {nt:Nat} {Q:Exit->Act->World->Prop} {Z:gU} {a:Act} {w:World} {o:Oper} {v:PV} {t:Nat->PV} {s s':cU} {r wr:List Nat}
variable {J:Nat->Option (Nat×Nat)} {N:Nat->List Nat} {tm:Array Value} {S:Nat->Prop}
theorem lN.form (h:lN X S Z w tm J N) {id:Nat} {blk blk':oE} {l l':List (ty k)} (hid:Z.s id=⟨ver,some blk⟩) (hr:kR blk k l) (H:kR blk' k l') (hl:l'.length=l.length) (hL:∀x∈L,x∈N id) (hnd:L.Nodup)
  (I:∀i j u b off,J id=some (b,off)->uE J Z.s id ver i j u->uE J (eN Z.s id ⟨ver,some blk'⟩) id ver i j u)
  (M:Tr S S w w J J Z.s (eN Z.s id ⟨ver,some blk'⟩)->yE S w J (eN Z.s id ⟨ver,some blk'⟩) L id blk') :
  Tr S S w w J J Z.s (eN Z.s id ⟨ver,some blk'⟩)/\lN X S ⟨Z.t,eN Z.s id ⟨ver,some blk'⟩⟩ w tm J (eN N id L):=by
 have z:(Z.s id).blk=some blk:=by rw[hid]
 refine lN.step h (eN Z.s id ⟨ver,some blk'⟩) (· = id) (fun _ h=>h) (fun _ _=>rfl) (fun b D=> ?_) (bB _) (fun _ _ _=>rfl) (fun i R=>⟨bU _ _ R,rfl,bU _ _ R⟩) ?_ ?_ ?_ ?_ ?_ ?_ ?_ (fun q u n hq e=>h.rx_same hid hr H hl q u n hq e) h.frm h.env
 ·obtain⟨h1,h2,h3⟩:=h.fz b D
  refine⟨h1,?_,h3⟩
  rintro⟨i,bk,q1,q2⟩
  by_cases R:i=id
  ·subst R;rw[aD]at q2;exact h2 ⟨i,_,z,hL _ q2⟩
  ·rw[bU _ _ R]at q1 q2;exact h2 ⟨i,bk,q1,q2⟩
 ·rintro i rfl v o n f u ⟨W,k2,k3⟩
  refine⟨by rw[aD];rw[hid]at W;exact W,k2,fun b2 k2' l2 e hr2=> ?_⟩
  rw[aD]at e
  cases e
  cases H.same hr2
  have:=k3 _ _ _ hid hr
  rw[hl]
  exact this
 ·rintro i rfl v i' j' u Y
  have W:=Y.1
  rw[hid]at W
  by_cases hv:v=ver
  ·subst hv
   obtain⟨b,off,hβ,_⟩:=Y.2.2 blk hid
   exact I i' j' u b off hβ Y
  ·refine⟨by rw[aD];exact W,Y.2.1,fun b2 e=> ?_⟩
   rw[aD]at e
   cases e
   exact absurd rfl hv
 ·rintro i b rfl D T
  rw[aD]at D
  cases D
  rw[aD]
  exact M T
 ·rintro i b rfl D x hx
  rw[aD]at hx
  exact .inl ⟨i,_,rfl,z,hL x hx⟩
 ·rintro i b rfl D
  rw[aD]
  exact hnd
 ·rintro i i' b b' rfl rfl _ _ hne
  exact absurd rfl hne
 ·rintro j p hj rfl
  obtain⟨_,cs,e,_⟩:=h.ext j p hj
  rw[z]at e;cases e;cases hr
theorem aDo {id:Nat} (e:(D7 id p).Run PC s q s' r wr):∀i,i<id->s' i=s i:=fun i D=>by
 unfold D7 at e
 split at e
 ·obtain⟨z,wr',e⟩:=fA e
  obtain⟨-,rfl,-,-⟩:=e
  exact bU _ _ (by omega)
 ·obtain⟨z,wr',e⟩:=fA e
  obtain⟨-,rfl,-,-⟩:=e
  exact bU _ _ (by omega)
 ·obtain⟨z,wr',e⟩:=fA e
  obtain⟨-,rfl,-,-⟩:=e
  exact bU _ _ (by omega)
 all_goals first|exact e.elim|(obtain⟨-,rfl,-,-⟩:=e;rfl)
theorem RZ:∀{ps qs:List PV} {id:Nat} {s s':cU} {r wr:List Nat},(RY id ps).Run PC s qs s' r wr->∀i,i<id->s' i=s i
 | [],qs,id,s,s',r,wr,e,i,z=>by obtain⟨-,rfl,-,-⟩:=e;rfl
 | p::ps,qs,id,s,s',r,wr,e,i,z=>by
  obtain⟨W,s1,Y,w1,r2,w2,D,H⟩:=cB e
  obtain⟨a2,s2,r3,w3,r4,w4,I,M⟩:=cB H
  obtain⟨-,R,-,-⟩:=M
  subst R
  rw[RZ I i (by omega),aDo D i z]
theorem aHm (id:Nat):id<fid id:=by unfold fid;omega
theorem P9 (h:St X ⟨t,s⟩ w tm J N) {id:Nat} {l:List (ty k)} {x:ty k} (hid:s id=⟨ver,some (.rowd k l)⟩) (hx:l[i]?=some x) {qs:List PV}
  (hr:(RY (fid id) ((aG x).map aEj)).Run PC (eN s id ⟨ver,some (.rowx k l i ((aG x).map M7))⟩) qs s2 r wr) :
  ∃J' N',St X ⟨t,eN s2 id ⟨ver,some (.rowx k l i qs)⟩⟩ w tm J' N'/\Tr (Fz X w N s) (Fz X w N' (eN s2 id ⟨ver,some (.rowx k l i qs)⟩)) w w J J' s (eN s2 id ⟨ver,some (.rowx k l i qs)⟩):=by
 have hbk:=h.blk id _ (by show(s id).blk=_;rw[hid])
 have hi:=(iR.1 hx).1
 rcases hbk with⟨_,e,_⟩ |⟨b,cap,cur,L,hβ,hN,hAt⟩
 ·subst e;simp at hi
 obtain⟨L1,Lx,L2,rfl,d1,dx,d2⟩:=hAt.cut hx
 obtain⟨a1,a2,a3,a4,a5,a6⟩:=hAt
 have D:(b::(L1++(Lx++L2))).Nodup:=by rw[<-hN];exact h.nodup id _ (by show(s id).blk=_;rw[hid])
 have hmul:i*size k+size k<=cur.size:=by
  have:(i+1)*size k<=cap*size k:=bF _ (by omega)
  rw[cF]at this;omega
 have I:∀j u,((cur.toList.drop (i*size k)).take (size k))[j]?=some u->cur[i*size k+j]?=some u:=fun j u hu=>by
  rw[aU]at hu
  split at hu
  ·rw[bK]at hu;simpa using hu
  ·cases hu
 have hsub:(b::(L1++L2)).Sublist (b::(L1++(Lx++L2))):=(List.sublist_append_right Lx L2).append_left L1 |>.cons_cons b
 obtain⟨T1,st1⟩:=lN.form (Z:=⟨t,s⟩) h (id:=id) (blk':= .rowx k l i ((aG x).map M7)) hid .d .x rfl (L:=b::(L1++L2)) (fun y z=>by rw[hN];exact hsub.mem z) (hsub.nodup D)
  (fun i' j' u b' off hb' H=>⟨by rw[aD];exact bB _,H.2.1,fun b2 e=>by
   rw[aD]at e
   cases e
   exact H.2.2 _ hid⟩)
  (fun T=>⟨b,cap,cur,L1,L2,hβ,rfl,a1,a2,a3,a4,a5,hi,by simp[cP],fun j p H=>by
   rw[bX]at H
   cases R:(aG x)[j]? with
   | none=>simp[R]at H
   | some lf=>
    simp only[R,fR,Option.some.injEq]at H
    subst H
    obtain⟨u,M,hu,_,hd⟩:=dx.get j lf R
    refine⟨u,I j u hu,hd.one,?_⟩
    cases lf with
    | sc q=>exact hd.1
    | nest=>trivial,d1,d2⟩)
 have hP:rR X (Fz X w N s) (eN s id ⟨ver,some (.rowx k l i ((aG x).map M7))⟩) (eN N id (b::(L1++L2))) Lx:=by
  have hm:∀y∈Lx,y∈N id:=fun y z=>by rw[hN];simp[z]
  have W:(s id).blk=some (.rowd k l):=by rw[hid]
  refine⟨?_,fun y z hf=>hf.2.1 ⟨id,_,W,hm y z⟩,fun y z=>h.new id _ W y (hm y z),fun j bk hj y z hyn=> ?_⟩
  ·have:=(List.nodup_cons.1 D).2
   exact(List.nodup_append.1 (List.nodup_append.1 this).2.1).1
  ·by_cases hji:j=id
   ·subst hji
    rw[aD]at hyn
    rw[gH]at D
    rcases List.mem_cons.1 hyn with rfl|hyn
    ·exact D.1 (by simp[z])
    ·rcases List.mem_append.1 hyn with hyn|hyn
     ·exact(List.nodup_append.1 D.2).2.2 y hyn y (by simp[z]) rfl
     ·exact(List.nodup_append.1 (List.nodup_append.1 D.2).2.1).2.2 y z y hyn rfl
   ·rw[bU _ _ hji]at hj hyn
    exact h.disj j id _ _ hj W hji y hyn (hm y z)
 obtain⟨J2,N2,st2,T2,hall,hheld⟩:=HM st1 (by have:=aHm id;unfold fid;omega) (bZ.map (fun lf u L h=>iE.own (S:=Fz X w N s) (J:=J) (σ:=s) h) dx) hP hr
 have Y:s2 id=⟨ver,some (.rowx k l i ((aG x).map M7))⟩:=by rw[RZ hr id (aHm id),aD]
 have hp0:uE J2 s2 id ver i 0 (.pointer (some ⟨b,i*size k+0,none⟩)):=T2.ptr ⟨by rw[aD];exact bB _,.inl ⟨_,rfl⟩,fun b2 e=>by
  rw[aD]at e;cases e;exact⟨b,0,hβ,rfl,hi,rfl⟩⟩
 obtain⟨b',off',hβ2,e1,_,e2⟩:=hp0.2.2 _ Y
 cases e1
 cases e2
 obtain⟨b',cap',cur',M1,M2,g1,g2,g3,g4,g5,g6,g7,g8,g9,g10,g11,g12⟩:=st2.blk id _ (by show(s2 id).blk=_;rw[Y])
 rw[hβ2]at g1;cases g1
 have ec:cur'=cur:=by
  obtain⟨_,p1,_⟩:=g4
  obtain⟨_,p2,_⟩:=a2
  rw[p1]at p2;cases p2;rfl
 subst ec
 have hqs:qs.length=size k:=by rw[hall.len,<-dx.len,cP]
 obtain⟨T3,st3⟩:=lN.form (Z:=⟨t,s2⟩) st2 (id:=id) (blk':= .rowx k l i qs) Y .x .x rfl (L:=N2 id) (fun y z=>z) (st2.nodup id _ (by show(s2 id).blk=_;rw[Y]))
  (fun i' j' u b' off hb' H=>⟨by rw[aD];exact bB _,H.2.1,fun b2 e=>by
   rw[aD]at e
   cases e
   exact H.2.2 _ Y⟩)
  (fun T=>⟨b,cap',cur',M1,M2,hβ2,g2,g3,g4,g5,g6,g7,g8,hqs,fun j p H=>by
   obtain⟨u,hu,hv⟩:=hall.get j p H
   obtain⟨lf,R⟩:∃lf,(aG x)[j]?=some lf:=by
    have:j<(aG x).length:=by rw[cP,<-hqs];exact(iR.1 H).1
    exact⟨_,iD this⟩
   obtain⟨u',M,hu',_,hd⟩:=dx.get j lf R
   rw[hu]at hu';cases hu'
   exact⟨u,I j u hu,hd.one,T.vs hv⟩,g11,g12⟩)
 obtain⟨st4,T4⟩:=st3.close
 exact⟨_,_,st4,(T1.trans T2).trans (T3.trans T4)⟩
end
open Go.RowKit
def aAB:PV->Option aA
 | .v x=>some (.sc x)
 | .nil=>some .nl
 | .row true k l=>(match flat k with
  | true=>some (.nest k l)
  | false=>none)
 | .drow k l=>some (.nest k l)
 | _=>none
def BD:List PV->Option (List aA)
 | []=>some []
 | p::ps=>match aAB p,BD ps with
  | some x,some l=>some (x::l)
  | _,_=>none
def yG (s:cU) (k:K) (cs:List PV):Option (ty k×List Nat):=match mT s cs with
 | some (qs,A,[])=>(match yK A&&A.all (Nat.ble 99),BD qs with
  | true,some ls=>(match nJ k ls with
   | some y=>some (y,A)
   | none=>none)
  | _,_=>none)
 | _=>none
section
variable {P:Program} {PC:rU} {X:mM} {nt:Nat} {Q:Exit->Act->World->Prop} {Z:gU} {a:Act} {w:World} {o:Oper} {v:PV} {t:Nat->PV} {s s':cU} {r wr:List Nat}
variable {J:Nat->Option (Nat×Nat)} {N:Nat->List Nat} {tm:Array Value} {S:Nat->Prop} {σ:cU}
theorem aEX {x:aA} {lf:d4} (h:aAB p=some x) (D:oL x lf) (H:gI S w J σ p u L):iE w lf u L:=by
 unfold aAB at h
 split at h
 ·cases h
  obtain⟨rfl,e,I⟩:=H
  have z:lf= .sc _:=D I
  subst z
  exact⟨⟨e,I⟩,rfl⟩
 ·cases h
  obtain⟨k,rfl⟩:=D
  obtain⟨rfl,e⟩:=H
  exact iO.2 (.inl ⟨e,rfl,rfl⟩)
 ·split at h
  ·rename_i M
   cases h
   have z:lf= .nest _ _:=D
   subst z
   exact G6.deep M H
  ·cases h
 ·cases h
  have z:lf= .nest _ _:=D
  subst z
  exact H
 ·cases h
theorem DW:∀{ps:List PV} {xs:List aA} {lfs:List d4} {us:List Value} {L:List Nat},BD ps=some xs->bC oL xs lfs->bZ (gI S w J σ) ps us L->bZ (iE w) lfs us L
 | [],xs,lfs,us,L,h,z,D=>by
  cases h
  cases lfs with
  | nil=>cases us with
   | nil=>exact D
   | cons=>exact D.elim
  | cons=>exact z.elim
 | p::ps,xs,lfs,us,L,h,z,D=>by
  unfold BD at h
  split at h
  ·rename_i x l H I
   cases h
   cases lfs with
   | nil=>exact z.elim
   | cons lf lfs=>
    cases us with
    | nil=>exact D.elim
    | cons u us=>
     obtain⟨L1,L2,e,M,R⟩:=D
     exact⟨L1,L2,e,aEX H z.1 M,DW I z.2 R⟩
  ·cases h
theorem vZ:∀{A:List Nat} {s:cU} {i:Nat},iP A s i=(if i∈A then⟨(s i).ver,none⟩else s i)
 | [],s,i=>by simp[iP]
 | a::A,s,i=>by
  unfold iP
  rw[vZ]
  by_cases e:i=a
  ·subst e
   rw[aD]
   simp
  ·rw[bU _ _ e]
   simp[e]
theorem KX (h:St X ⟨t,s⟩ w tm J N) {id:Nat} {l:List (ty k)} {cs:List PV} (hid:s id=⟨ver,some (.rowx k l i cs)⟩) {y:ty k} (I:yG s k cs=some (y,A)) :
  ∃N',St X ⟨t,eN (iP A s) id ⟨ver,some (.rowd k (l.set i y))⟩⟩ w tm J N'/\Tr (Fz X w N s) (Fz X w N' (eN (iP A s) id ⟨ver,some (.rowd k (l.set i y))⟩)) w w J J s (eN (iP A s) id ⟨ver,some (.rowd k (l.set i y))⟩):=by
 have D:(s id).blk=some (.rowx k l i cs):=by rw[hid]
 unfold yG at I
 split at I
 case h_2=>cases I
 rename_i qs A' hcl
 split at I
 case h_2=>cases I
 rename_i ls hnn hls
 split at I
 case h_2=>cases I
 rename_i y' hy
 cases I
 rw[aB]at hnn
 have hA:=tR hnn.1
 have h99:∀a∈A,99<=a:=fun a ha=>bY (List.all_eq_true.1 hnn.2 a ha)
 obtain⟨b,cap,cur,L1,L2,hβ,hN,a1,a2,a3,a4,a5,hi,hcs,Y,d1,d2⟩:=h.blk id _ D
 have hmul:i*size k+size k<=l.length*size k:=by
  have:(i+1)*size k<=l.length*size k:=bF _ (by omega)
  rw[cF]at this;omega
 have hle:l.length*size k<=cur.size:=by rw[a5];exact bF _ a3
 let us:=(cur.toList.drop (i*size k)).take (size k)
 have husl:us.length=size k:=by show(List.take _ (List.drop _ _)).length=_;rw[aF,cA,d5];omega
 have hus:bC (e9 (Fz X w N s) w J s) cs us:=by
  have key:∀(ps:List PV) (vs:List Value),ps.length=vs.length->(∀(j:Nat) p u,ps[j]?=some p->vs[j]?=some u->e9 (Fz X w N s) w J s p u)->bC (e9 (Fz X w N s) w J s) ps vs:=by
   intro ps
   induction ps with
   | nil=>intro vs hl _;cases vs with
    | nil=>trivial
    | cons=>simp at hl
   | cons p ps ih=>intro vs hl hv;cases vs with
    | nil=>simp at hl
    | cons u vs=>exact⟨hv 0 p u rfl rfl,ih vs (by simpa using hl) fun j p u hp hu=>hv (j+1) p u (by simpa using hp) (by simpa using hu)⟩
  refine key cs us (by omega) fun j p u hp hu=> ?_
  obtain⟨u',hu',_,hv⟩:=Y j p hp
  have:cur[i*size k+j]?=some u:=by
   have hu:((cur.toList.drop (i*size k)).take (size k))[j]?=some u:=hu
   rw[aU]at hu
   split at hu
   ·rw[bK]at hu;simpa using hu
   ·cases hu
  rw[hu']at this;cases this
  exact hv
 obtain⟨M,hown⟩:=xE (S':=Fz X w N s) (J':=J) (σ':=s) h (fun _ h=>h) hus hcl (fun id hid=>by cases hid)
 have hdl:=DW hls (iX hy) hown
 have hidA:id∉A:=fun hm=>by
  have key:∀{ps qs:List PV} {A B:List Nat},mT s ps=some (qs,A,B)->∀a∈A,∀k l i cs,(s a).blk≠some (.rowx k l i cs):=by
   intro ps
   induction ps with
   | nil=>intro qs A B I a ha;cases I;cases ha
   | cons p ps ih=>
    intro qs A B I a ha k l i cs e
    unfold mT at I
    split at I
    ·rename_i q A1 B1 qs' A2 B2 e1 e2
     cases I
     rcases List.mem_append.1 ha with ha|ha
     ·unfold iC at e1
      repeat' split at e1
      all_goals first
       | (cases e1;done)
       | (cases e1;cases ha;done)
       | (rename_i hs _;cases e1;rw[List.mem_singleton.1 ha]at e;simp_all;done)
       | (cases e1;rw[List.mem_singleton.1 ha]at e;simp_all;done)
     ·exact ih e2 a ha k l i cs e
    ·cases I
  exact key hcl id hm k l i cs D
 let σ':cU:=eN (iP A s) id ⟨ver,some (.rowd k (l.set i y))⟩
 let N':Nat->List Nat:=eN N id (b::(L1++((A.map N).flatten++L2)))
 have hσid:σ' id=⟨ver,some (.rowd k (l.set i y))⟩:=aD _ _ _
 have hσA:∀a∈A,σ' a=⟨(s a).ver,none⟩:=fun a ha=>by
  show eN _ _ _ a=_
  rw[bU _ _ (fun e=>by subst e;exact hidA ha),vZ,if_pos ha]
 have hσo:∀j,j≠id->j∉A->σ' j=s j:=fun j h1 h2=>by
  show eN _ _ _ j=_
  rw[bU _ _ h1,vZ,if_neg h2]
 have hAN:∀z∈(A.map N).flatten,∃a∈A,z∈N a:=fun z hz=>by
  obtain⟨q,hq,hz⟩:=List.mem_flatten.1 hz
  obtain⟨a,ha,rfl⟩:=List.mem_map.1 hq
  exact⟨a,ha,hz⟩
 have H:(b::(L1++L2)).Nodup:=by rw[<-hN];exact h.nodup id _ D
 have hndA:=h.nodups hA M
 have hAid:∀z∈(A.map N).flatten,z∉N id:=fun z hz hzi=>by
  obtain⟨a,ha,hza⟩:=hAN z hz
  obtain⟨bk,hbk⟩:=M a ha
  exact h.disj a id _ _ hbk D (fun e=>by subst e;exact hidA ha) z hza hzi
 obtain⟨T,st⟩:=St.step (Z:=⟨t,s⟩) h σ' (N':=N') (J':=J) (fun j=>j=id∨j∈A) (bB _) (fun _ _ _=>rfl) (fun j hj=>⟨hσo j (fun e=>hj (.inl e)) (fun e=>hj (.inr e)),rfl,bU _ _ (fun e=>hj (.inl e))⟩)
  (by
   rintro j (rfl|hj) v o n f u ⟨W,k2,k3⟩
   ·refine⟨by rw[hσid];show v<=ver;have W:v<=(s j).ver:=W;rw[hid]at W;exact W,k2,fun b2 k2' l2 e hr2=> ?_⟩
    rw[hσid]at e
    cases e
    cases hr2
    have:=k3 _ _ _ hid .x
    simpa using this
   ·refine⟨by rw[hσA j hj];exact W,k2,fun b2 k2' l2 e hr2=> ?_⟩
    rw[hσA j hj]at e
    cases e)
  (by
   rintro j (rfl|hj) v i' j' u ⟨W,k2,k3⟩
   ·refine⟨by rw[hσid];show v<=ver;have W:v<=(s j).ver:=W;rw[hid]at W;exact W,k2,fun b2 e=> ?_⟩
    rw[hσid]at e
    cases e
    have:=k3 _ hid
    simpa using this
   ·refine⟨by rw[hσA j hj];exact W,k2,fun b2 e=> ?_⟩
    rw[hσA j hj]at e
    cases e)
  (by
   rintro j bk (rfl|hj) R T
   ·rw[hσid]at R
    cases R
    show yE _ _ _ _ (eN N j _ j) _ _
    rw[aD]
    refine .inr ⟨b,cap,cur,_,hβ,rfl,by simpa using a1,a2,by simpa using a3,a4,a5,?_⟩
    have ef:(l.set i y).flatMap aG=(l.take i).flatMap aG++(aG y++(l.drop (i+1)).flatMap aG):=by
     rw[List.set_eq_take_append_cons_drop,if_pos hi,cH,dD]
    have ec:cur.toList.take ((l.set i y).length*size k)=cur.toList.take (i*size k)++(us++(cur.toList.take (l.length*size k)).drop ((i+1)*size k)):=by
     rw[List.length_set]
     conv=>lhs;rw[<-fW (i*size k) (cur.toList.take (l.length*size k))]
     rw[nU,fQ (by omega)]
     congr 1
     conv=>lhs;rw[<-fW (size k) ((cur.toList.take (l.length*size k)).drop (i*size k))]
     congr 1
     ·show _=List.take _ _
      rw[List.drop_take,nU,fQ (by omega)]
     ·rw[kH,cF,Nat.one_mul]
    rw[ef,ec]
    exact d1.app (hdl.app d2)
   ·rw[hσA j hj]at R;cases R)
  (by
   rintro j bk (rfl|hj) R z hz
   ·have hz:z∈eN N j (b::(L1++((A.map N).flatten++L2))) j:=hz
    rw[aD]at hz
    by_cases hzA:z∈(A.map N).flatten
    ·obtain⟨a,ha,hza⟩:=hAN z hzA
     obtain⟨bk',hbk'⟩:=M a ha
     exact .inl ⟨a,bk',.inr ha,hbk',hza⟩
    ·refine .inl ⟨j,_,.inl rfl,D,?_⟩
     rw[hN]
     simp only[dS,pE]at hz⊢
     rcases hz with hz|hz|hz|hz
     ·exact .inl hz
     ·exact .inr (.inl hz)
     ·exact absurd hz hzA
     ·exact .inr (.inr hz)
   ·rw[hσA j hj]at R;cases R)
  (by
   rintro j bk (rfl|hj) R
   ·show(eN N j _ j).Nodup
    rw[aD]
    rw[gH]at H⊢
    obtain⟨n1,n2,n3⟩:=List.nodup_append.1 H.2
    have hAL:∀z∈(A.map N).flatten,z≠b/\z∉L1/\z∉L2:=fun z hz=>by
     have:=hAid z hz
     rw[hN]at this
     simp only[dS,pE,not_or]at this
     exact⟨this.1,this.2.1,this.2.2⟩
    refine⟨?_,List.nodup_append.2 ⟨n1,List.nodup_append.2 ⟨hndA,n2,fun z hz z' hz' e=>(hAL z hz).2.2 (e▸hz')⟩,fun z hz z' hz' e=> ?_⟩⟩
    ·simp only[pE,not_or]
     refine⟨fun hm=>H.1 (by simp[hm]),fun hm=>(hAL b hm).1 rfl,fun hm=>H.1 (by simp[hm])⟩
    ·subst e
     rcases List.mem_append.1 hz' with hz'|hz'
     ·exact(hAL z hz').2.1 hz
     ·exact n3 z hz z hz' rfl
   ·rw[hσA j hj]at R;cases R)
  (by
   rintro j j' bk bk' (rfl|hj) (rfl|hj') R hb' hne
   ·exact absurd rfl hne
   ·rw[hσA j' hj']at hb';cases hb'
   ·rw[hσA j hj]at R;cases R
   ·rw[hσA j hj]at R;cases R)
  (by
   rintro j p hj (rfl|hj')
   ·obtain⟨_,cs',e,_⟩:=h.ext j p hj
    have e:(s j).blk=_:=e
    rw[D]at e;cases e
   ·have:=(iR.1 hj).1
    have:=X.few
    have:=h99 j hj'
    omega)
  (by
   rintro q u n hq (hC|hC)
   ·obtain⟨g1,b0,k0,l0,g2,g3,g4,g5⟩:=h.rxt q u n hq
    have g2:s (50+q)=⟨0,some b0⟩:=g2
    rw[hC,hid]at g2
    cases g2
    cases g3
    exact⟨_,k,l.set i y,by rw[hC,hσid],.d,by simpa using g4⟩
   ·obtain⟨g1,_⟩:=h.rxt q u n hq
    have:=h99 _ hC
    omega)
  h.frm h.env
 exact⟨N',st,T⟩
end
open Go.RowKit
def scs:List d4->Bool
 | []=>true
 | .sc _::l=>scs l
 | .nest _ _::_=>false
def aCI (t:TypeId) (p:PV):eM PV:=match tyB t with
 | none=> .fail
 | some (ag,n)=>match p with
  | .ptr id ver i j=>oG id ver fun
   | .rowd _ l=> .opt l[i]? fun x=>(match scs (((aG x).drop j).take n)with
    | true=>uG ag ((aG x).map M7) j n
    | false=>aCT id i fun qs=>uG ag qs j n)
   | .rowx _ _ i0 cs=>NR (i=i0) (uG ag cs j n)
   | .box _=>PP t p
   | .rowb _ _=>PP t p
   | .objb _=>PP t p
   | .iterb _ _ _ _ _=>PP t p
  | p=>PP t p
def XV (t:TypeId) (p v:PV):eM PV:=match tyB t with
 | none=> .fail
 | some (ag,n)=>match p with
  | .ptr id ver i j=>oG id ver fun
   | .rowd k l=>if(jJ v).length=n/\(jJ v).all mI then aCT id i fun qs=>if j+n<=qs.length then .wr id ⟨ver,some (.rowx k l i (splice qs j (jJ v)))⟩ (.ret .un)else .fail else .fail
   | .rowx k l i0 cs=>if(jJ v).length=n/\(jJ v).all mI then NR (i=i0) (if j+n<=cs.length then .wr id ⟨ver,some (.rowx k l i0 (splice cs j (jJ v)))⟩ (.ret .un)else .fail)else .fail
   | .box _=>HF t p v
   | .rowb _ _=>HF t p v
   | .objb _=>HF t p v
   | .iterb _ _ _ _ _=>HF t p v
  | p=>HF t p v
section
variable {P:Program} {PC:rU} {X:mM} {nt:Nat} {Q:Exit->Act->World->Prop} {Z:gU} {a:Act} {w:World} {o:Oper} {v:PV} {t:Nat->PV} {s s':cU} {r wr:List Nat}
variable {J:Nat->Option (Nat×Nat)} {N:Nat->List Nat} {tm:Array Value} {S:Nat->Prop} {σ:cU}
theorem DQ {N:List Nat} {id:Nat} {l:List (ty k)} {cs:List PV} (h:yE S w J σ N id (.rowx k l i cs)) :
  ∃b,J id=some (b,0)/\∀(j:Nat) p,cs[j]?=some p->∃u,w.cell? ⟨b,i*size k+j,none⟩ = some u/\e9 S w J σ p u:=by
 obtain⟨b,cap,cur,L1,L2,z,R,W,D,Y,h6,h7,h8,h9,e,_⟩:=h
 refine⟨b,z,fun j p H=> ?_⟩
 obtain⟨u,I,_,M⟩:=e j p H
 exact⟨u,by rw[D.cell];exact I,M⟩
theorem O3 {N:List Nat} {id:Nat} {l:List (ty k)} (h:yE S w J σ N id (.rowd k l)) {x:ty k} (R:l[i]?=some x) :
  ∃b,J id=some (b,0)/\∀(j:Nat) p,((aG x).map M7)[j]?=some p->∃u,w.cell? ⟨b,i*size k+j,none⟩ = some u/\e9 S w J σ p u:=by
 have W:=(iR.1 R).1
 rcases h with⟨_,e,_⟩ |⟨b,cap,cur,L,hβ,hN,D⟩
 ·subst e;simp at W
 ·obtain⟨L1,Lx,L2,_,_,dx,_⟩:=D.cut R
  refine⟨b,hβ,fun j p I=> ?_⟩
  rw[bX]at I
  cases z:(aG x)[j]? with
  | none=>simp[z]at I
  | some lf=>
   simp only[z,fR,Option.some.injEq]at I
   subst I
   obtain⟨u,M,H,_,Y⟩:=dx.get j lf z
   rw[aU]at H
   split at H
   case isFalse=>cases H
   rw[bK]at H
   refine⟨u,by rw[D.2.1.cell];simpa using H,?_⟩
   cases lf with
   | sc q=>exact Y.1
   | nest=>trivial
theorem TC (h:St X Z w tm J N) {id:Nat} {l:List (ty k)} {cs:List PV} {b:Nat} (hid:Z.s id=⟨ver,some (.rowx k l i cs)⟩) (hβ:J id=some (b,0))
  (hv:bC (e9 (Fz X w N Z.s) w J Z.s) ps us) (h1:∀x∈us,x.oneCell'=true) (hj:j+ps.length<=cs.length) :
  ∃cur,gY w b cur (mJ k)/\i*size k+j+us.length<=cur.size/\St X ⟨Z.t,eN Z.s id ⟨ver,some (.rowx k l i (splice cs j ps))⟩⟩ (w.setRow b (iL cur (i*size k+j) us)) tm J N:=by
 have D:(Z.s id).blk=some (.rowx k l i cs):=by rw[hid]
 obtain⟨b',cap,cur,L1,L2,q1,q2,q3,q4,q5,q6,q7,q8,q9,q10,q11,q12⟩:=h.blk id _ D
 rw[hβ]at q1;cases q1
 have hul:=hv.len
 have hmul:i*size k+size k<=l.length*size k:=by
  have:(i+1)*size k<=l.length*size k:=bF _ (by omega)
  rw[cF]at this;omega
 have hle:l.length*size k<=cur.size:=by rw[q7];exact bF _ q5
 have H:i*size k+j+us.length<=cur.size:=by omega
 refine⟨cur,q4,H,?_⟩
 have hsz:=CN H
 obtain⟨fz,hh,hice⟩:=q4
 have hnew:(w.setRow b (iL cur (i*size k+j) us)).heap[b]?=some (.cells (iL cur (i*size k+j) us) (mJ k) fz):=setRow_heap w b cur _ _ fz hh
 have I:∀z,z<w.heap.size->z∉N id->(w.setRow b (iL cur (i*size k+j) us)).heap[z]?=w.heap[z]?:=fun z _ R=>setRow_other w b z _ (fun e=>R (by rw[q2,e];simp))
 have hndid:(b::(L1++L2)).Nodup:=by rw[<-q2];exact h.nodup id _ D
 have W:∀z∈L1++L2,(w.setRow b (iL cur (i*size k+j) us)).heap[z]?=w.heap[z]?:=fun z R=>setRow_other w b z _ (fun e=>(List.nodup_cons.1 hndid).1 (e▸R))
 refine(St.step (Z:=Z) h (eN Z.s id ⟨ver,some (.rowx k l i (splice cs j ps))⟩) (· = id) (by simp) (fun z R hc=>I z R (hc id _ rfl D)) (fun i hi=>⟨bU _ _ hi,rfl,rfl⟩) ?_ ?_ ?_ ?_ ?_ ?_ ?_ (h.rx_same hid .x .x rfl) ?_ ?_).2
 ·rintro Y rfl v o n f u ⟨k1,k2,k3⟩
  refine⟨by rw[aD];rw[hid]at k1;exact k1,k2,fun blk' k' l' e hr=> ?_⟩
  rw[aD]at e
  cases e
  cases hr
  obtain⟨p1,p2⟩:=k3 _ k l hid .x
  refine⟨p1,?_⟩
  rcases p2 with p2|⟨b2,c,o2,p3,p4,p5,p5o,p6⟩
  ·exact .inl p2
  ·refine .inr ⟨b2,c,o2,p3,p4,p5,p5o,fun hf=> ?_⟩
   obtain⟨p7,p8,p9⟩:=p6 hf
   rw[hβ]at p3;cases p3
   refine⟨p7,p8,fun c2 E2 fz2 hc2=> ?_⟩
   rw[hnew]at hc2
   cases hc2
   rw[hsz]
   exact p9 cur _ fz hh
 ·rintro Y rfl v i' j' u ⟨k1,k2,k3⟩
  refine⟨by rw[aD];rw[hid]at k1;exact k1,k2,fun blk e=> ?_⟩
  rw[aD]at e
  cases e
  exact k3 _ hid
 ·rintro Y blk rfl hbk T
  rw[aD]at hbk
  cases hbk
  have et:∀m,m<=i*size k->(iL cur (i*size k+j) us).toList.take m=cur.toList.take m:=fun m hm=>by
   apply kX
   intro z
   rw[aU,aU]
   split
   ·have:=pU H (i:=z) (.inl (by omega))
    simpa using this
   ·rfl
  have ed:((iL cur (i*size k+j) us).toList.take (l.length*size k)).drop ((i+1)*size k)=(cur.toList.take (l.length*size k)).drop ((i+1)*size k):=by
   apply kX
   intro z
   rw[bK,bK,aU,aU]
   split
   ·have:=pU H (i:=(i+1)*size k+z) (.inr (by rw[cF];omega))
    simpa using this
   ·rfl
  refine⟨b,cap,_,L1,L2,hβ,q2,q3,⟨fz,hnew,by rw[hsz];exact hice⟩,q5,q6,by rw[hsz];exact q7,q8,by rw[mS hj];exact q9,fun m p hp=> ?_,?_,?_⟩
  ·by_cases hin:j<=m/\m<j+ps.length
   ·obtain⟨z,rfl⟩:∃z,m=j+z:=⟨m-j,by omega⟩
    rw[sV hj (by omega)]at hp
    obtain⟨u,hu,hvu⟩:=hv.get z p hp
    refine⟨u,?_,h1 u (tF hu),T.vs hvu⟩
    rw[show i*size k+(j+z)=i*size k+j+z by omega,KK H (by omega)]
    exact hu
   ·rw[pK hj (by omega)]at hp
    obtain⟨u,hu,ho,hvu⟩:=q10 m p hp
    refine⟨u,?_,ho,T.vs hvu⟩
    rw[pU H (by omega)]
    exact hu
  ·rw[et _ (bB _)]
   exact bZ.mono (fun lf u M hM h=>iE.keep h fun z R=>W z (by simp[hM z R])) q11
  ·rw[ed]
   exact bZ.mono (fun lf u M hM h=>iE.keep h fun z R=>W z (by simp[hM z R])) q12
 ·rintro Y blk rfl hbk z R
  exact .inl ⟨Y,_,rfl,D,R⟩
 ·rintro Y blk rfl hbk
  exact h.nodup Y _ D
 ·rintro Y i' b1 b2 rfl rfl _ _ hne
  exact absurd rfl hne
 ·rintro Y p hp rfl
  obtain⟨e1,cs',e2,e3⟩:=h.ext Y p hp
  rw[D]at e2
  cases e2
 ·refine Frm.turn h id _ D rfl rfl rfl (by simp) I fun i2 b2 off2 n hi2 hn hm=> ?_
  exfalso
  obtain⟨e1,cs',e2,e3⟩:=h.ext i2 _ hi2
  have hne:i2≠id:=fun e=>by subst e;rw[D]at e2;cases e2
  have hb2:=h.blk i2 _ e2
  obtain⟨b3,off3,_,_,p1,p2,_⟩:=hb2
  rw[e1]at p1
  cases p1
  exact h.disj i2 id _ _ e2 D hne b2 (by rw[p2];simp) hm
 ·exact St.env_turn h id _ D I
theorem P8 {id:Nat} {next:List PV->eM α} {b:α} (h:(aCT id i next).Run PC s b s' r wr):∃ver k l x qs s2 e z D H,s id=⟨ver,some (.rowd k l)⟩/\l[i]?=some x/\(RY (fid id) ((aG x).map aEj)).Run PC (eN s id ⟨ver,some (.rowx k l i ((aG x).map M7))⟩) qs s2 e z/\(next qs).Run PC (eN s2 id ⟨ver,some (.rowx k l i qs)⟩) b s' D H:=by
 obtain⟨r',rfl,h⟩:=h
 simp only at h
 split at h
 case h_2=>exact h.elim
 rename_i ver k l I
 obtain⟨x,M,h⟩:=h
 obtain⟨w',rfl,h⟩:=h
 obtain⟨qs,s1,e,z,D,H,R,W⟩:=cB h
 obtain⟨w3,-,Y⟩:=W
 exact⟨ver,k,l,x,qs,s1,e,z,_,_,I,M,R,Y⟩
theorem XS (I:fT P) {t:TypeId} (W:o.op= .load t x) (Y:dI nt x=true) (hg:cE X nt Z a w) (h:(aCI t (opd Z.t x)).Run PC Z.s v s' r wr) :
  o.wp P a w (fun a' w'=>cE X nt ⟨eJ o.dst v Z.t,s'⟩ a' w') Q:=by
 obtain⟨hs,hd,J,N,H⟩:=id hg
 have hv:=H.opd hs Y
 unfold aCI at h
 split at h
 case h_1=>exact h.elim
 rename_i ag n ht
 have fin:∀(b off:Nat) u J' N',a.eval x= .pointer (some ⟨b,off,none⟩)->St X ⟨Z.t,s'⟩ w a.tmps J' N'->(loadVar t ⟨b,off,none⟩).run P w= .ok u w->gM (Fz X w N' s') w J' s' v u->o.wp P a w (fun a' w'=>cE X nt ⟨eJ o.dst v Z.t,s'⟩ a' w') Q:=by
  intro b off u J' N' he D e z
  refine jM hs hd ?_ D z
  unfold execOp
  simp only[W,he,Instr.loadAt,Instr.sureAddr,Sem.run_bind,Sem.run_pure,Result.andThen_ok,e]
 split at h
 case h_2=>exact tM I W Y hg h
 rename_i id ver i j he
 have M:uE J Z.s id ver i j (a.eval x):=by rw[he]at hv;exact hv
 obtain⟨blk,r',hb,rfl,h⟩:=fM h
 cases blk with
 | box cs=>exact tM I W Y hg h
 | rowb k l=>exact tM I W Y hg h
 | objb o=>exact tM I W Y hg h
 | iterb=>exact tM I W Y hg h
 | rowx k l i0 cs=>
  obtain⟨b,off,hβ,rfl,hil,R⟩:=M.2.2 _ hb
  obtain⟨rfl,h⟩:=h
  obtain⟨b',hβ',hc⟩:=DQ (H.blk id _ (by rw[hb]))
  rw[hβ]at hβ';cases hβ'
  obtain⟨rfl,u,e,z⟩:=pI I ht h (b:=b) (off:=i*size k) hc
  exact fin b _ u J N R H e z
 | rowd k l=>
  obtain⟨b,off,hβ,rfl,hil,R⟩:=M.2.2 _ hb
  obtain⟨x0,hx0,h⟩:=h
  simp only at h
  split at h
  ·obtain⟨b',hβ',hc⟩:=O3 (H.blk id _ (by rw[hb])) hx0
   rw[hβ]at hβ';cases hβ'
   obtain⟨rfl,u,e,z⟩:=pI I ht h (b:=b) (off:=i*size k) hc
   exact fin b _ u J N R H e z
  ·obtain⟨ver',k',l',x',qs,s2,r1,w1,r2,w2,e1,e2,h1,h2⟩:=P8 h
   rw[hb]at e1;cases e1
   obtain⟨J',N',D,T⟩:=P9 (t:=Z.t) H hb e2 h1
   have hvp':=T.ptr M
   obtain⟨b',off',hβ',rfl,_,he3⟩:=hvp'.2.2 _ (aD _ _ _)
   obtain⟨b2,hβ2,hc⟩:=DQ (D.blk id _ (by show(eN s2 id _ id).blk=_;rw[aD]))
   rw[hβ']at hβ2;cases hβ2
   obtain⟨rfl,u,e,z⟩:=pI I ht h2 (b:=b') (off:=i*size k) hc
   exact fin b' _ u J' N' he3 D e z
theorem TW (R:fT P) {t:TypeId} {y:Operand} (W:o.op= .store t x y) (Y:dI nt x=true) (hy:dI nt y=true) (hg:cE X nt Z a w)
  (h:(XV t (opd Z.t x) (opd Z.t y)).Run PC Z.s v s' r wr):o.wp P a w (fun a' w'=>cE X nt ⟨eJ o.dst v Z.t,s'⟩ a' w') Q:=by
 obtain⟨hs,hd,J,N,M⟩:=id hg
 have hv:=M.opd hs Y
 have hvy:=M.opd hs hy
 unfold XV at h
 split at h
 case h_1=>exact h.elim
 rename_i ag n ht
 split at h
 case h_2=>exact qH R W Y hy hg h
 rename_i id ver i j he
 have hvp:uE J Z.s id ver i j (a.eval x):=by rw[he]at hv;exact hv
 obtain⟨blk,r',hb,rfl,h⟩:=fM h
 have fin:∀(us:List Value) (b off:Nat) (cur:Array Value) (E:TypeId),(a.eval y).cells=us.toArray->(∀x∈us,x.oneCell'=true)->(jJ (opd Z.t y)).length=n->(jJ (opd Z.t y)).length=us.length->a.eval x= .pointer (some ⟨b,off,none⟩)->gY w b cur E->off+us.length<=cur.size->
   (execOp a.eval o).run P w= .ok .skip (w.setRow b (iL cur off us)):=by
  intro us b off cur E hc D hn I he hr hfit
  have hi:(P.info? t).map (·.size)=some us.length:=by
   rw[<-I,hn]
   cases ag with
   | true=>exact(R.agg t n ht).2
   | false=>obtain⟨e,_,h2⟩:=R.one t n ht;rw[e];exact h2
  unfold execOp
  simp only[W,he,Instr.storeAt,Instr.sureAddr,Sem.run_bind,Sem.run_pure,Result.andThen_ok,EV t b off (a.eval y) us hc cur E hr hfit D hi]
  rfl
 cases blk with
 | box cs=>exact qH R W Y hy hg h
 | rowb k l=>exact qH R W Y hy hg h
 | objb o=>exact qH R W Y hy hg h
 | iterb=>exact qH R W Y hy hg h
 | rowx k l i0 cs=>
  simp only at h
  split at h
  case isFalse=>exact h.elim
  rename_i z
  obtain⟨us,hc,H,D⟩:=pF hvy z.2
  have I:=H.len
  obtain⟨b,off,hβ,rfl,hil,he2⟩:=hvp.2.2 _ hb
  obtain⟨rfl,h⟩:=h
  split at h
  case isFalse=>exact h.elim
  rename_i hj
  obtain⟨w3,_,rfl,rfl,-,-⟩:=h
  obtain⟨cur,q1,q2,q3⟩:=TC M hb hβ H D (by rw[z.1];exact hj)
  exact sU hs hd (fin us b _ cur _ hc D z.1 I he2 q1 q2) q3
 | rowd k l=>
  simp only at h
  split at h
  case isFalse=>exact h.elim
  rename_i z
  obtain⟨ver',k',l',x',qs,s2,r1,w1,r2,w2,e1,e2,h1,h⟩:=P8 h
  rw[hb]at e1;cases e1
  obtain⟨J',N',hst',T⟩:=P9 (t:=Z.t) M hb e2 h1
  have hvp':=T.ptr hvp
  obtain⟨b',off',hβ',rfl,_,he3⟩:=hvp'.2.2 _ (aD _ _ _)
  obtain⟨us,hc,H,D⟩:=pF (T.vc hvy) z.2
  have I:=H.len
  split at h
  case isFalse=>exact h.elim
  rename_i hj
  obtain⟨w3,_,rfl,rfl,-,-⟩:=h
  obtain⟨cur,q1,q2,q3⟩:=TC hst' (aD _ _ _) hβ' H D (by rw[z.1];exact hj)
  exact sU hs hd (fin us b' _ cur _ hc D z.1 I he3 q1 q2) q3
end
open Go.RowKit
def aAd:d4->PV
 | .sc v=> .v v
 | .nest _ _=> .nil
def aCx (o:Oper) (t:TypeId):eM PV:=match W6 t with
 | some zs=>pG (rS o) (.box (zs.map aAd)) fun ver=> .ret (.ptr (rS o) ver 0 0)
 | none=> .fail
def aD9 (t:TypeId):List PV->List (Nat×PV)->Option (List PV)
 | cs,[]=>some cs
 | cs,(i,v)::rest=>match X5 t i with
  | some (off,_,m)=>if(jJ v).length=m/\(jJ v).all mI=true/\off+m<=cs.length then aD9 t (splice cs off (jJ v)) rest else none
  | none=>none
def aCA (t:TypeId) (parts:List (Nat×PV)):eM PV:=match tyB t,W6 t with
 | some (true,_),some zs=>match aD9 t (zs.map aAd) parts with
  | some cs=> .ret (.agg cs)
  | none=> .fail
 | _,_=> .fail
section
variable {P:Program} {PC:rU} {X:mM} {nt:Nat} {Q:Exit->Act->World->Prop} {Z:gU} {a:Act} {w:World} {o:Oper} {v:PV} {s':cU} {r wr:List Nat}
theorem aCa {zs:List d4} {cells:Array Value} (h:OX zs cells):bC (e9 S w J σ) (zs.map aAd) cells.toList/\∀u∈cells.toList,u.oneCell'=true:=by
 obtain⟨W,Y⟩:=h
 have key:∀(lf:d4) (u:Value),aDR lf u->e9 S w J σ (aAd lf) u/\u.oneCell'=true:=by
  intro lf u z
  cases lf with
  | sc q=>obtain⟨rfl,hw⟩:=z;exact⟨⟨rfl,hw⟩,by cases u<;>simp_all[sD,Value.oneCell']⟩
  | nest k l=>obtain⟨rfl,_⟩:=z;exact⟨rfl,rfl⟩
 refine⟨bC.of (by simp[W]) fun i p u H I=> ?_,fun u I=> ?_⟩
 ·rw[bX]at H
  cases z:zs[i]? with
  | none=>simp[z]at H
  | some lf=>
   simp only[z,fR,Option.some.injEq]at H
   subst H
   obtain⟨u',e,M⟩:=Y i lf z
   have:u=u':=by
    have D:cells[i]?=some u:=by simpa using I
    rw[e]at D;exact(Option.some.inj D).symm
   subst this
   exact(key lf u M).1
 ·obtain⟨i,hi,rfl⟩:=List.mem_iff_getElem.1 I
  have R:i<zs.length:=by rw[<-W];simpa using hi
  obtain⟨u',e,M⟩:=Y i zs[i] (by simp[R])
  have D:cells[i]?=some cells.toList[i]:=by simp
  rw[e]at D
  rw[<-Option.some.inj D]
  exact(key _ _ M).2
theorem XL (R:fT P) {t:TypeId} (W:o.op= .alloc t) (Y:cE X nt Z a w) (h:(aCx o t).Run PC Z.s v s' r wr) :
  o.wp P a w (fun a' w'=>cE X nt ⟨eJ o.dst v Z.t,s'⟩ a' w') Q:=by
 obtain⟨hs,hd,J,N,I⟩:=id Y
 unfold aCx at h
 split at h
 case h_2=>exact h.elim
 rename_i zs hz
 obtain⟨i,z,q1,q2,q3⟩:=R.zero t zs hz
 obtain⟨r',wr',h⟩:=fA h
 obtain⟨rfl,rfl,-,-⟩:v=_/\s'=_/\r'=[]/\wr'=[]:=h
 obtain⟨D,H⟩:=aCa (S:=Fz X w N Z.s) (J:=J) (σ:=Z.s) (w:=w) q3
 have M:=aEp I (rS o) (xX o) D H t
 refine jM hs hd ?_ M ?_ (u:= .pointer (some ⟨w.heap.size,0,none⟩))
 ·unfold execOp
  simp[W,Instr.alloc,zeroValue,typeInfo,q1,q2,newVar,newRow]
 ·refine⟨by show _<=(eN Z.s _ _ _).ver;rw[aD];exact bB _,.inl ⟨_,rfl⟩,fun blk e=> ?_⟩
  rw[aD]at e
  cases e
  exact⟨w.heap.size,0,by rw[aD],rfl⟩
theorem bC.splice {R:PV->Value->Prop} {cs ps:List PV} {us vs:List Value} {j:Nat} (M:bC R cs us) (W:bC R ps vs) (H:j+ps.length<=cs.length):bC R (Go.Px.splice cs j ps) (Go.Px.splice us j vs):=by
 have Y:=M.len
 have l2:=W.len
 refine bC.of (by rw[mS H,mS (by omega)];exact Y) fun i p u z D=> ?_
 by_cases hin:j<=i/\i<j+ps.length
 ·obtain⟨m,rfl⟩:∃m,i=j+m:=⟨i-j,by omega⟩
  rw[sV H (by omega)]at z
  rw[sV (by omega) (by omega)]at D
  obtain⟨u',e,I⟩:=W.get m p z
  rw[D]at e;cases e;exact I
 ·rw[pK H (by omega)]at z
  rw[pK (by omega) (by omega)]at D
  obtain⟨u',e,I⟩:=M.get i p z
  rw[D]at e;cases e;exact I
theorem D0 (off:Nat) (l:List Value) (cs:Array Value) (h:off+l.length<=cs.size):((l.toArray.zipIdx).foldl (fun cs (x:Value×Nat)=>cs.setIfInBounds (off+x.2) x.1) cs)=(splice cs.toList off l).toArray:=by
 have e:(l.toArray.zipIdx).foldl (fun cs (x:Value×Nat)=>cs.setIfInBounds (off+x.2) x.1) cs=(l.zipIdx 0).foldl (fun cs (x:Value×Nat)=>cs.setIfInBounds (off+x.2) x.1) cs:=by
  rw[<-Array.foldl_toList]
  simp
 rw[e]
 obtain⟨H,z⟩:=Go.Great.foldl_set off l 0 cs
 apply Array.ext_getElem?
 intro i
 rw[z i]
 simp only[iT]
 by_cases D:off<=i/\i<off+l.length
 ·obtain⟨m,rfl⟩:∃m,i=off+m:=⟨i-off,by omega⟩
  rw[if_pos (by omega),sV (by simpa using h) (by omega)]
  congr 1;omega
 ·rw[if_neg (by omega),pK (by simpa using h) (by omega)]
  simp
theorem aAN (W:fT P) {t:TypeId} {places:List (Nat×Nat)} (M:∀i off ag n,X5 t i=some (off,ag,n)->places[i]?=some (off,n)) {S:Nat->Prop} {J:Nat->Option (Nat×Nat)} {σ:cU}:∀(parts:List (Nat×PV)) (vals:List (Nat×Value)) (cs qs:List PV) (us:List Value),
  bC (fun p q=>p.1=q.1/\gM S w J σ p.2 q.2) parts vals->bC (e9 S w J σ) cs us->aD9 t cs parts=some qs->∃us',Instr.fill (places.toArray[·]?) us.toArray vals=some us'.toArray/\bC (e9 S w J σ) qs us'
 | [],[],cs,qs,us,_,H,h=>by cases h;exact⟨us,rfl,H⟩
 | (i,v)::parts,(i',u)::vals,cs,qs,us,⟨⟨e,R⟩,Y⟩,H,h=>by
  simp only at e R
  subst e
  unfold aD9 at h
  split at h
  case h_2=>cases h
  rename_i off ag m hf
  split at h
  case isFalse=>cases h
  rename_i D
  obtain⟨c1,c2,c3⟩:=D
  obtain⟨xs,hx,z,_⟩:=pF R c2
  have hl:=z.len
  have hcl:=H.len
  obtain⟨us',h1,h2⟩:=aAN W M parts vals _ qs _ Y (bC.splice H z (by omega)) h
  refine⟨us',?_,h2⟩
  have I:(places.toArray)[i]?=some (off,m):=by simpa using M i off ag m hf
  rw[Instr.fill]
  simp only[I,hx,kY]
  rw[if_neg (by simp;omega)]
  rw[D0 off xs us.toArray (by simp;omega)]
  exact h1
 | [],_::_,_,_,_,h,_,_=>h.elim
 | _::_,[],_,_,_,h,_,_=>h.elim
theorem XM (R:fT P) {t:TypeId} {parts:Array (Nat×Operand)} (ho:o.op= .build t parts) (hx:(parts.toList.map (·.2)).all (dI nt)=true) (hg:cE X nt Z a w) (h:(aCA t (parts.toList.map fun x=>(x.1,opd Z.t x.2))).Run PC Z.s v s' r wr) :
  o.wp P a w (fun a' w'=>cE X nt ⟨eJ o.dst v Z.t,s'⟩ a' w') Q:=by
 obtain⟨W,hd,J,N,H⟩:=id hg
 unfold aCA at h
 split at h
 case h_2=>exact h.elim
 rename_i n zs ht hz
 split at h
 case h_2=>exact h.elim
 rename_i cs D
 obtain⟨rfl,rfl,-,-⟩:v=_/\s'=_/\r=[]/\wr=[]:=h
 obtain⟨it,fs,z,places,zs',Y,q1,q2,q3,q4,q5,q6⟩:=R.bld t n ht
 rw[hz]at Y;cases Y
 obtain⟨I,_⟩:=aCa (S:=Fz X w N Z.s) (J:=J) (σ:=Z.s) (w:=w) q4
 have e:∀(l:List (Nat×Operand)),(∀x∈l,dI nt x.2=true)->bC (fun(p:Nat×PV) (q:Nat×Value)=>p.1=q.1/\gM (Fz X w N Z.s) w J Z.s p.2 q.2) (l.map fun x=>(x.1,opd Z.t x.2)) (l.map fun x=>(x.1,a.eval x.2)):=by
  intro l
  induction l with
  | nil=>intro _;trivial
  | cons x l ih=>intro hl;exact⟨⟨rfl,H.opd W (hl x (by simp))⟩,ih fun y hy=>hl y (by simp[hy])⟩
 obtain⟨us',h1,h2⟩:=aAN R q6 _ _ _ _ _ (e parts.toList fun x M=>List.all_eq_true.1 hx x.2 (List.mem_map.2 ⟨x,M,rfl⟩)) I D
 refine cK W hd H (u:= .agg us'.toArray) ?_ ⟨us'.toArray,rfl,h2⟩
 unfold execOp
 have hb:P.built t (parts.map fun x=>(x.1,a.eval x.2)).toList=some us'.toArray:=by
  unfold Program.built
  simp only[q1,q2,q3,q5]
  simpa using h1
 simp only[ho,Sem.run_bind,run_build w t _ _ hb,Result.andThen_ok,Sem.run_pure]
end
end Go.Px

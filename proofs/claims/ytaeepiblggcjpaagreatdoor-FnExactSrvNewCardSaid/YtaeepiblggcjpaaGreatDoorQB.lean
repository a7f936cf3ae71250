/- What a call may hold, as plain values and a store: a small machine over them, the functions of this program as its contracts, and the plain laws: texts Px24 to Px34. -/
import Derived.Test.YtaeepiblggcjpaaGreatDoorQA
import Derived.Laws.Tables
import Derived.Great.BuildSlice
import Derived.Great.FillDense
import Derived.Laws.MakeOwn
set_option linter.unusedSimpArgs false
set_option linter.unusedVariables false
set_option linter.constructorNameAsVariable false
namespace Go.Px
variable {S S' S1 S2:Nat->Prop} {k:K} {G i j n off ver:Nat} {J J' J0:Nat->Option (Nat×Nat)} {N:Nat->List Nat} {u:Value} {x:Operand} {w w':World} {f:FuncId} {us:List Value} {s s2 σ σ' σ0:Sto} {p q:PV} {A B L L1 L2 La m pk:List Nat} {mv:Bool} {α:Type} {ps:List PV} {locs:List (Nat×Nat)} {Le:List (List Nat)} {exts':List (List PV)}
open Go.RowKit
section
variable {P:Program} {PC:Con} {X:Ctx} {nt:Nat} {Q:Exit->Act->World->Prop} {Z:Env} {a:Act} {w:World} {o:Oper} {v:PV} {s':Sto} {r wr:List Nat}
theorem row_sub {p:Option Addr} {c:Nat} {l:List (ty k)} (h:Row S w k (.slice p n c) l) {m:Nat} (hij:i<=j) (hj:j<=l.length) (hm:m<=c) (hjm:j<=m) :
  Row S w k (.slice (if m=i then p else p.map (·.add (i*size k))) (j-i) (m-i)) ((l.take j).drop i):=by
 obtain⟨p',cap,e,h1,h2,h3⟩:=h
 cases e
 have hlen:((l.take j).drop i).length=j-i:=by rw[List.length_drop,List.length_take];omega
 refine⟨_,m-i,by rw[hlen],by omega,by omega,fun hne=> ?_⟩
 have hji:i<j:=by
  rcases Nat.lt_or_ge i j with h|h
  ·exact h
  ·exfalso;apply hne;apply List.eq_nil_of_length_eq_zero;omega
 obtain⟨b,off,rfl,hb,h4⟩:=h3 (by intro e;rw[e]at hj;simp at hj;omega)
 rw[if_neg (by omega)]
 refine⟨b,off+i*size k,by simp[addr_add],hb,fun i' x hx j' lf hlf=> ?_⟩
 have hi':i'<j-i:=by have:=(qS1.1 hx).1;omega
 rw[List.getElem?_drop,List.getElem?_take,if_pos (by omega)]at hx
 obtain⟨u,hu,h5⟩:=h4 (i+i') x hx j' lf hlf
 exact⟨u,by rw[Nat.add_mul]at hu;rw[show off+i*size k+i'*size k+j'=off+(i*size k+i'*size k)+j' by omega];exact hu,h5⟩
theorem opt_rel (hst:St X Z w a.tmps J N) (hs:a.tmps.size=nt) {x:Option Operand} (hx:∀y,x=some y->opndB nt y=true):OptR (ValC (Fz X w N Z.s) w J Z.s) (x.map (opd Z.t)) (x.map a.eval):=by
 cases x with
 | none=>trivial
 | some y=>exact hst.opd hs (hx y rfl)
set_option maxHeartbeats 1000000 in
theorem eSlice_val (hF:Facts P) {tm:Array Value} (hst:St X Z w tm J N) {t:TypeId} {x:PV} {lo hi:Option PV} {ul uh:Option Value} (hv:ValC (Fz X w N Z.s) w J Z.s x u)
  (hl:OptR (ValC (Fz X w N Z.s) w J Z.s) lo ul) (hh:OptR (ValC (Fz X w N Z.s) w J Z.s) hi uh) (h:(eSlice t x lo hi).Run PC Z.s v s' r wr) :
  s'=Z.s/\∃q,(∀w0:World,(Instr.sliceAt t u ul uh none).run P w0= .ok q w0/\(Instr.slice t u ul uh none).run P w0= .ok q w0)/\ValC (Fz X w N Z.s) w J Z.s v q:=by
 unfold eSlice at h
 split at h
 case h_4=>exact h.elim
 case h_1=>
  rename_i s
  split at h
  case isFalse=>exact h.elim
  rename_i ht
  obtain⟨p,q,hb,h⟩:=boundsC_run h
  obtain⟨rfl,rfl,-,-⟩:v=_/\s'=_/\r=[]/\wr=[]:=h
  obtain⟨_,h2,h3⟩:=run_bounds (P:=P) (w0:=w) (isS:=false) hl hh (Nat.le_refl _) hb
  refine⟨rfl,.string (s.extract p q),fun w0=> ?_,⟨rfl,?_⟩⟩
  ·obtain⟨h1,_,_⟩:=run_bounds (P:=P) (w0:=w0) (isS:=false) hl hh (Nat.le_refl _) hb
   rw[show u= .string s from hv.1]
   refine⟨?_,?_⟩ <;>simp[Instr.sliceAt,run_underlying (hF.str t ht),Instr.slice,h1]
  ·have:=hv.2
   show(s.extract p q).size<=_
   have h4:(s.extract p q).size<=s.size:=by rw[ByteArray.size_extract];omega
   have h5:s.size<=9223372036854775807:=hv.2
   omega
 case h_2=>
  rename_i k l
  split at h
  case isFalse=>exact h.elim
  rename_i hk
  obtain⟨p,q,hb,h⟩:=boundsC_run h
  rw[cutL_eq hb]at h
  obtain⟨rfl,rfl,-,-⟩:v=_/\s'=_/\r=[]/\wr=[]:=h
  obtain⟨_,hrow⟩:=hv
  obtain⟨pa,cap,e1,e2,_⟩:=id hrow
  obtain⟨_,h2,h3⟩:=run_bounds (P:=P) (w0:=w) (isS:=true) hl hh e2 hb
  obtain⟨i,z,q1,q2,q3,q4,q5,-⟩:=hF.el k
  subst e1
  refine⟨rfl,_,fun w0=> ?_,⟨rfl,row_sub hrow h2 h3 (Nat.le_refl _) (Nat.le_trans h3 e2)⟩⟩
  obtain⟨h1,_,_⟩:=run_bounds (P:=P) (w0:=w0) (isS:=true) hl hh e2 hb
  refine⟨?_,?_⟩ <;>simp[Instr.sliceAt,run_underlying (hF.sl t k hk),Instr.slice,h1,sizeOf,typeInfo,q1,q3]
 case h_3=>
  rename_i id ver off n full
  obtain⟨k1,_,k3⟩:=hv
  obtain⟨blk,r',hb,rfl,h⟩:=live_run h
  have go:∀(k:K) (l:List (ty k)),IsRow blk k l->(if slK t=some k then boundsC n lo hi fun p q=> .ret (.ref id ver (off+p) (q-p) (full&&lo.isNone&&hi.isNone))else .fail:Eff PV).Run PC Z.s v s' r' wr->s'=Z.s/\∃q,(∀w0:World,(Instr.sliceAt t u ul uh none).run P w0= .ok q w0/\(Instr.slice t u ul uh none).run P w0= .ok q w0)/\ValC (Fz X w N Z.s) w J Z.s v q:=by
   intro k l hrw h
   split at h
   case isFalse=>exact h.elim
   rename_i hk
   obtain⟨p,q,hbd,h⟩:=boundsC_run h
   obtain⟨rfl,rfl,-,-⟩:v=_/\s'=_/\r'=[]/\wr=[]:=h
   obtain⟨i,z,q1,q2,q3,q4,q5,-⟩:=hF.el k
   obtain⟨e1,e2⟩:=k3 _ k l hb hrw
   have run:∀(pa:Option Addr) (c:Nat),n<=c->u= .slice pa n c->(∀w0:World,(Instr.sliceAt t u ul uh none).run P w0= .ok (.slice (if c=p then pa else pa.map (·.add (p*size k))) (q-p) (c-p)) w0/\(Instr.slice t u ul uh none).run P w0= .ok (.slice (if c=p then pa else pa.map (·.add (p*size k))) (q-p) (c-p)) w0)/\p<=q/\q<=n:=by
    intro pa c hc he
    obtain⟨_,h2,h3⟩:=run_bounds (P:=P) (w0:=w) (isS:=true) hl hh hc hbd
    refine⟨fun w0=> ?_,h2,h3⟩
    obtain⟨h1,_,_⟩:=run_bounds (P:=P) (w0:=w0) (isS:=true) hl hh hc hbd
    rw[he]
    refine⟨?_,?_⟩ <;>simp[Instr.sliceAt,run_underlying (hF.sl t k hk),Instr.slice,h1,sizeOf,typeInfo,q1,q3]
   rcases e2 with⟨e2,e3⟩ |⟨b,c,o2,e2,e3,e4,e5,e6⟩
   ·have hn:n=0:=by
     have hblk:=row_head hrw (hst.blk id _ (by rw[hb]))
     have:l=[]:=by
      rcases hblk with⟨_,e,_⟩ |⟨b,cap,cur,q,_⟩;exact e;simp_all
     subst this
     simp at e1;omega
    subst hn
    obtain⟨h1,h2,h3⟩:=run none 0 (Nat.le_refl _) e3
    have hq0:q=0:=by omega
    have hp0:p=0:=by omega
    subst hq0 hp0
    refine⟨rfl,_,h1,⟨k1,⟨_,_,_,rfl⟩,fun blk2 k2 l2 hb2 hr2=> ?_⟩⟩
    rw[hb]at hb2
    cases hb2
    cases hrw.same hr2
    exact⟨by omega,.inl ⟨e2,by simp⟩⟩
   ·obtain⟨h1,h2,h3⟩:=run _ c e3 e4
    refine⟨rfl,_,h1,⟨k1,⟨_,_,_,rfl⟩,fun blk2 k2 l2 hb2 hr2=> ?_⟩⟩
    rw[hb]at hb2
    cases hb2
    cases hrw.same hr2
    refine⟨by omega,.inr ⟨b,c-p,if c=p then o2 else o2+p*size k,e2,by omega,?_,fun hz=> ?_,fun hf=> ?_⟩⟩
    ·split
     ·rfl
     ·simp[addr_add]
    ·rcases hz with hz|hz
     ·rw[if_neg (by omega),e5 (.inl (by omega)),Nat.add_mul]
     ·simp only[Bool.and_eq_true]at hz
      obtain⟨⟨hz1,hz2⟩,hz3⟩:=hz
      have hlo:lo=none:=by cases lo<;>simp_all
      have hp0:p=0:=by
       subst hlo
       unfold boundsE at hbd
       split at hbd
       ·cases hbd
       ·simp only[boundE]at hbd
        cases hbd;rfl
      subst hp0
      have:=e5 (.inr hz1)
      split<;>simp_all
    ·simp only[Bool.and_eq_true]at hf
     obtain⟨⟨hz1,hz2⟩,hz3⟩:=hf
     have hlo:lo=none:=by cases lo<;>simp_all
     have hhi:hi=none:=by cases hi<;>simp_all
     subst hlo hhi
     simp only[boundsE,boundE,Option.some.injEq,Prod.mk.injEq]at hbd
     obtain⟨rfl,rfl⟩:=hbd
     obtain⟨f1,f2,f3⟩:=e6 hz1
     exact⟨by omega,by omega,fun cur E fz hh=>by rw[Nat.sub_zero];exact f3 cur E fz hh⟩
  cases blk with
  | box cs=>exact h.elim
  | objb o=>exact h.elim
  | iterb=>exact h.elim
  | rowb k l=>exact go k l .b h
  | rowd k l=>exact go k l .d h
  | rowx k l i cs=>exact h.elim
theorem eSlice_sound (hF:Facts P) {t:TypeId} {lo hi:Option Operand} (ho:o.op= .slice t x lo hi none) (hx:opndB nt x=true) (hlo:∀y,lo=some y->opndB nt y=true) (hhi:∀y,hi=some y->opndB nt y=true) (hg:Good X nt Z a w)
  (h:(eSlice t (opd Z.t x) (lo.map (opd Z.t)) (hi.map (opd Z.t))).Run PC Z.s v s' r wr):o.wp P a w (fun a' w'=>Good X nt ⟨putE o.dst v Z.t,s'⟩ a' w') Q:=by
 obtain⟨hs,hd,J,N,hst⟩:=id hg
 obtain⟨rfl,q,h1,h2⟩:=eSlice_val hF hst (hst.opd hs hx) (opt_rel hst hs hlo) (opt_rel hst hs hhi) h
 refine sound_val hs hd hst ?_ h2
 unfold execOp
 simp only[ho,Sem.run_bind,Sem.run_pure,Result.andThen_ok,Option.map_none,(h1 w).1]
theorem St.more {X:Ctx} {Z:Env} {w:World} {tm:Array Value} (h:St X Z w tm J N) (hb:Below w.heap.size w w'):Tr (Fz X w N Z.s) (Fz X w' N Z.s) w w' J J Z.s Z.s/\St X Z w' tm J N:=by
 obtain⟨b1,b2,b3,b4,b5⟩:=hb
 refine St.step (Z:=Z) h Z.s (fun _=>False) b4 (fun b hb _=>b5 b hb) (fun _ _=>⟨rfl,rfl,rfl⟩) (fun _ h=>h.elim) (fun _ h=>h.elim) (fun _ _ h=>h.elim) (fun _ _ h=>h.elim) (fun _ _ h=>h.elim) (fun _ _ _ _ h=>h.elim) (fun _ _ _ h=>h.elim) (fun _ _ _ _ h=>h.elim) ?_ (X.cl _ _ h.env fun b hb=>b5 b (Nat.lt_of_lt_of_le (Nat.lt_of_lt_of_le hb X.hw) h.frm.size))
 obtain⟨h1,h2,h3,h4,h5,h6⟩:=h.frm
 refine⟨b1.trans h1,b2.trans h2,b3.trans h3,Nat.le_trans h4 b4,fun b hb hf=>(b5 b (Nat.lt_of_lt_of_le hb h4)).trans (h5 b hb hf),fun j b off n hj hl=> ?_⟩
 obtain⟨c0,c,E,fz,q1,q2,q3⟩:=h6 j b off n hj hl
 exact⟨c0,c,E,fz,q1,(b5 b (Array.getElem?_eq_some_iff.1 q2).1).trans q2,q3⟩
def eWin (t:TypeId) (args:List PV):Eff PV:=match args with
 | [.agg [.v (.int .i64 W),.v (.int .i64 H),c],.v (.int .i64 y)]=>gdE (inK .i64 (y*W)) (gdE (inK .i64 (y+1)) (gdE (inK .i64 ((y+1)*W)) (eSlice t c (some (.v (.int .i64 (y*W)))) (some (.v (.int .i64 ((y+1)*W)))))))
 | _=> .fail
theorem eWin_sound (hF:Facts P) {t:TypeId} (hf:winT f=some t) {args:List PV} (hexec:(execOp a.eval o).run P w=(callFunc f us.toArray).run P w) (hg:Good X nt Z a w)
  (hps:∀J N,St X Z w a.tmps J N->All2 (ValC (Fz X w N Z.s) w J Z.s) args us) (h:(eWin t args).Run PC Z.s v s' r wr):o.wp P a w (fun a' w'=>Good X nt ⟨putE o.dst v Z.t,s'⟩ a' w') Q:=by
 obtain⟨hs,hd,J,N,hst⟩:=id hg
 have hv:=hps J N hst
 unfold eWin at h
 split at h
 case h_2=>exact h.elim
 rename_i W H c y
 obtain⟨g1,g2,g3,h⟩:=h
 match us,hv with
 | [u,uy],⟨⟨ua,e1,hc⟩,hy,_⟩=>
  obtain⟨rfl,-⟩:uy=_/\_:=hy
  match hua:ua.toList,hc with
  | [uw,uh,uc],⟨hw1,hh1,hc1,_⟩=>
   obtain⟨rfl,-⟩:uw=_/\_:=hw1
   obtain⟨rfl,-⟩:uh=_/\_:=hh1
   have hcc:ValC (Fz X w N Z.s) w J Z.s c uc:=by cases c<;>first|exact hc1|exact hc1.elim
   obtain⟨rfl,q,h1,h2⟩:=eSlice_val hF hst (ul:=some (.int .i64 (y*W))) (uh:=some (.int .i64 ((y+1)*W))) hcc (show OptR _ (some (.v (.int .i64 (y*W)))) _ from⟨rfl,g1⟩) (show OptR _ (some (.v (.int .i64 ((y+1)*W)))) _ from⟨rfl,g3⟩) h
   have:=hF.win f t hf w W H y uc q g1 g2 g3 fun w0=>(h1 w0).2
   have ea:ua= #[.int .i64 W,.int .i64 H,uc]:=by apply Array.ext';rw[hua]
   rw[e1,ea]at hexec
   unfold Oper.wp
   rw[hexec]
   unfold Arrive at this
   split at this
   ·rename_i u' w' hrun
    rw[hrun]
    obtain⟨e2,hb⟩:=this
    cases e2
    obtain⟨T,st⟩:=hst.more hb
    exact Good.put hs hd st (T.vc h2)
   ·rename_i f' ys w' hrun
    rw[hrun]
    rw[Oper.upon_enter]
    refine Calls.mono this fun e w'' hR=> ?_
    obtain⟨rfl,hb⟩:=hR
    obtain⟨T,st⟩:=hst.more hb
    exact Good.put hs hd st (T.vc h2)
   ·exact this.elim
def eSel (x:Nat×Nat×Nat) (args:List PV):Eff PV:=match args with
 | [.eptr k l i j]=> .opt l[i]? fun y=>match((leaves y).map leafPV)[j+x.1]? with
  | some (.v (.bool c))=> .ite c (.ret (.eptr k l i (j+x.2.1))) (.ret (.eptr k l i (j+x.2.2)))
  | _=> .fail
 | _=> .fail
theorem eSel_sound (hF:Facts P) {x:Nat×Nat×Nat} (hf:selT f=some x) {args:List PV} (hexec:(execOp a.eval o).run P w=(callFunc f us.toArray).run P w) (hg:Good X nt Z a w)
  (hps:∀J N,St X Z w a.tmps J N->All2 (ValC (Fz X w N Z.s) w J Z.s) args us) (h:(eSel x args).Run PC Z.s v s' r wr):o.wp P a w (fun a' w'=>Good X nt ⟨putE o.dst v Z.t,s'⟩ a' w') Q:=by
 obtain⟨hs,hd,J,N,hst⟩:=id hg
 have hv:=hps J N hst
 unfold eSel at h
 split at h
 case h_2=>exact h.elim
 rename_i k l i j
 obtain⟨y,hy,h⟩:=h
 match us,hv with
 | [u],⟨hu,_⟩=>
  obtain⟨b,off,h1,rfl,h3⟩:=hu
  simp only at h
  split at h
  case h_2=>exact h.elim
  rename_i c hc
  obtain⟨u0,q1,q2,-⟩:=row_cells (J:=J) (σ:=Z.s) h3 hy _ _ hc
  subst q2
  rw[<-Nat.add_assoc]at q1
  have:=hF.sel f x.1 x.2.1 x.2.2 hf w b (off+i*size k+j) c q1
  have hvs:s'=Z.s/\v= .eptr k l i (j+if c then x.2.1 else x.2.2):=by
   rcases h with⟨rfl,h⟩ |⟨rfl,h⟩
   ·exact⟨h.2.1,h.1⟩
   ·exact⟨h.2.1,h.1⟩
  obtain⟨rfl,rfl⟩:=hvs
  have hval:ValC (Fz X w N Z.s) w J Z.s (.eptr k l i (j+if c then x.2.1 else x.2.2)) (.pointer (some ⟨b,off+i*size k+j+(if c then x.2.1 else x.2.2),none⟩)):=⟨b,off,h1,by rw[Nat.add_assoc],h3⟩
  unfold Oper.wp
  rw[hexec]
  unfold Arrive at this
  split at this
  ·rename_i u' w' hrun
   rw[hrun]
   obtain⟨e2,hb⟩:=this
   cases e2
   obtain⟨T,st⟩:=hst.more hb
   exact Good.put hs hd st (T.vc hval)
  ·rename_i f' ys w' hrun
   rw[hrun]
   rw[Oper.upon_enter]
   refine Calls.mono this fun e w'' hR=> ?_
   obtain⟨rfl,hb⟩:=hR
   obtain⟨T,st⟩:=hst.more hb
   exact Good.put hs hd st (T.vc hval)
  ·exact this.elim
end
open Go.RowKit
def closeS (s:Sto):PV->Option (PV×List Nat×List Nat)
 | .v x=>some (.v x,[],[])
 | .nil=>some (.nil,[],[])
 | .row false k l=>some (.row false k l,[],[])
 | .eptr k l i j=>some (.eptr k l i j,[],[])
 | .ref id ver off n full=>match s id with
  | ⟨v,some (.rowb k l)⟩=>if v=ver then
    if full=true then some (.row true k l,[id],[])else some (.row false k ((l.drop off).take n),[],[id])
   else none
  | ⟨v,some (.rowd k l)⟩=>if v=ver then
    if full=true then some (.drow k l,[id],[])else some (.row false k ((l.drop off).take n),[],[id])
   else none
  | _=>none
 | .ptr id ver _ j=>match s id with
  | ⟨v,some (.objb o)⟩=>if v=ver/\j=0 then some (.obj o,[id],[])else none
  | _=>none
 | .un=>some (.dead,[],[])
 | .dead=>some (.dead,[],[])
 | _=>none
def closeL (s:Sto):List PV->Option (List PV×List Nat×List Nat)
 | []=>some ([],[],[])
 | p::ps=>match closeS s p,closeL s ps with
  | some (q,a,b),some (qs,c,d)=>some (q::qs,a++c,b++d)
  | _,_=>none
def close1 (s:Sto):PV->Option (PV×List Nat×List Nat)
 | .agg cs=>match closeL s cs with
  | some (qs,a,b)=>some (.agg qs,a,b)
  | none=>none
 | p=>closeS s p
section
variable {P:Program} {PC:Con} {X:Ctx} {nt:Nat} {Q:Exit->Act->World->Prop} {Z:Env} {a:Act} {w:World} {o:Oper} {v:PV} {s':Sto} {r wr:List Nat}
theorem closeS_spec {tm:Array Value} (h:St X Z w tm J N) (hF:∀b,Fz X w N Z.s b->S' b) (hv:ValS (Fz X w N Z.s) w J Z.s p u) (hc:closeS Z.s p=some (q,A,B))
  (hB:∀id∈B,∀b∈N id,S' b):(∀id∈A,∃blk,(Z.s id).blk=some blk)/\OwnS S' w J' σ' q u (A.map N).flatten:=by
 unfold closeS at hc
 split at hc
 ·cases hc;exact⟨by simp,rfl,hv⟩
 ·cases hc;exact⟨by simp,rfl,hv⟩
 ·cases hc;exact⟨by simp,rfl,rfl,hv.2.mono hF fun b o u _ hu=>hu⟩
 ·cases hc
  obtain⟨b,off,h1,h2,h3⟩:=hv
  exact⟨by simp,rfl,b,off,h1,h2,h3.mono hF fun b o u _ hu=>hu⟩
 ·rename_i id ver off n full
  have hv0:RefC w J Z.s id ver off n full u:=hv
  obtain⟨_,_,k3⟩:=hv
  split at hc
  ·rename_i v k l hs
   split at hc
   ·rename_i hver
    subst hver
    obtain⟨e1,e2⟩:=k3 _ k l hs .b
    split at hc
    ·rename_i hf
     cases hc
     refine⟨fun i hi=>by have hi2:=List.mem_singleton.1 hi;subst hi2;exact⟨_,by rw[hs]⟩,?_⟩
     have hblk:=h.blk id _ (by rw[hs])
     show Own S' w k u l _
     simp only[List.map_cons,List.map_nil,List.flatten_cons,List.flatten_nil,List.append_nil]
     rcases e2 with⟨e2,e3⟩ |⟨b,c,o2,e2,e3,e4,e5,e6⟩
     ·rcases hblk with⟨_,f1,f2⟩ |⟨b,cap,cur,q,_⟩
      ·exact .inl ⟨e3,f1,f2⟩
      ·rw[e2]at q;cases q
     ·rcases hblk with⟨e,_⟩ |⟨b',cap,cur,q1,q2,q3⟩
      ·rw[e2]at e;cases e
      ·rw[e2]at q1;cases q1
       obtain⟨f1,f2,f3⟩:=e6 hf
       have ho2:o2=0:=by have h9:=e5 (.inr hf);rw[f1,Nat.zero_mul]at h9;exact h9
       subst ho2
       have hcap:c=cap:=by
        obtain⟨fz,hh,_⟩:=q3.2.1
        have h12:=f3 cur _ fz hh
        have h7:=q3.2.2.2.2.1
        rw[h12]at h7
        exact Nat.eq_of_mul_eq_mul_right (size_pos _) h7
       subst hcap
       exact .inr ⟨b,c,cur,by rw[e4,f2],q2,q3.mono rfl hF fun _ _ _ _ h=>h⟩
    ·cases hc
     exact⟨by simp,rfl,rfl,RefC.view h hv0 hs .b hF (hB id (by simp))⟩
   ·cases hc
  ·rename_i v k l hs
   split at hc
   ·rename_i hver
    subst hver
    obtain⟨e1,e2⟩:=k3 _ k l hs .d
    split at hc
    ·rename_i hf
     cases hc
     refine⟨fun i hi=>by have hi2:=List.mem_singleton.1 hi;subst hi2;exact⟨_,by rw[hs]⟩,?_⟩
     have hblk:=h.blk id _ (by rw[hs])
     show DOwn w k u l _
     simp only[List.map_cons,List.map_nil,List.flatten_cons,List.flatten_nil,List.append_nil]
     rcases e2 with⟨e2,e3⟩ |⟨b,c,o2,e2,e3,e4,e5,e6⟩
     ·rcases hblk with⟨_,f1,f2⟩ |⟨b,cap,cur,L,q,_⟩
      ·exact DOwn_iff.2 (.inl ⟨e3,f1,f2⟩)
      ·rw[e2]at q;cases q
     ·rcases hblk with⟨e,_⟩ |⟨b',cap,cur,L,q1,q2,q3⟩
      ·rw[e2]at e;cases e
      ·rw[e2]at q1;cases q1
       obtain⟨f1,f2,f3⟩:=e6 hf
       have ho2:o2=0:=by have h9:=e5 (.inr hf);rw[f1,Nat.zero_mul]at h9;exact h9
       subst ho2
       have hcap:c=cap:=by
        obtain⟨fz,hh,_⟩:=q3.2.1
        have h12:=f3 cur _ fz hh
        have h7:=q3.2.2.2.2.1
        rw[h12]at h7
        exact Nat.eq_of_mul_eq_mul_right (size_pos _) h7
       subst hcap
       exact DOwn_iff.2 (.inr ⟨b,c,cur,L,by rw[e4,f2],q2,q3⟩)
    ·cases hc
     exact⟨by simp,rfl,rfl,RefC.view h hv0 hs .d hF (hB id (by simp))⟩
   ·cases hc
  ·cases hc
 ·rename_i id ver i0 j
  obtain⟨_,_,k3⟩:=hv
  split at hc
  ·rename_i v o hs
   split at hc
   ·rename_i hver
    obtain⟨rfl,rfl⟩:=hver
    cases hc
    obtain⟨b,off,e1,e2⟩:=k3 _ hs
    obtain⟨rfl,e3⟩:=e2 rfl
    obtain⟨b',f1,f2,f3⟩:=h.blk id _ (by rw[hs])
    rw[e1]at f1;cases f1
    refine⟨fun i hi=>by have hi2:=List.mem_singleton.1 hi;subst hi2;exact⟨_,by rw[hs]⟩,b,e3,?_,f3⟩
    simp only[List.map_cons,List.map_nil,List.flatten_cons,List.flatten_nil,List.append_nil,f2]
   ·cases hc
  ·cases hc
 ·cases hc;exact⟨by simp,rfl,trivial⟩
 ·cases hc;exact⟨by simp,rfl,trivial⟩
 ·cases hc
end
open Go.RowKit
def cellsAt (ag:Bool) (cs:List PV) (j n:Nat):Option PV:=if j+n<=cs.length then(if ag then some (.agg ((cs.drop j).take n))else match(cs.drop j).take n with
 | [c]=>some c
 | _=>none)else none
def res1 (nt:Nat) (Z:Env):ResultVar->Option PV
 | .tmp t=>if t<nt then some (Z.t t)else none
 | .cell p t=>if p<nt then(match tyB t,Z.t p with
  | some (ag,n),.ptr id ver _ j=>match Z.s id with
   | ⟨v,some (.box cs)⟩=>if v=ver then cellsAt ag cs j n else none
   | _=>none
  | _,_=>none)else none
def resL (nt:Nat) (Z:Env):List ResultVar->Option (List PV)
 | []=>some []
 | x::xs=>match res1 nt Z x,resL nt Z xs with
  | some v,some vs=>some (v::vs)
  | _,_=>none
def oneOr (qs:List PV):PV:=match qs with
 | [q]=>q
 | _=> .tup qs
def nodupB:List Nat->Bool
 | []=>true
 | x::xs=> !xs.contains x&&nodupB xs
def noOwnS:PV->Bool
 | .row true _ _| .ref .. | .ptr .. | .obj _| .drow .. | .gb ..=>false
 | .fn _ caps=>caps.isEmpty
 | _=>true
section
variable {P:Program} {PC:Con} {X:Ctx} {nt:Nat} {Q:Exit->Act->World->Prop} {Z:Env} {a:Act} {w:World} {o:Oper} {v:PV} {s':Sto} {r wr:List Nat}
theorem nodupB_spec:∀{l:List Nat},nodupB l=true->l.Nodup
 | [],_=>List.nodup_nil
 | x::xs,h=>by
  simp only[nodupB,Bool.and_eq_true,Bool.not_eq_true',List.contains_eq_mem,decide_eq_false_iff_not]at h
  exact List.nodup_cons.2 ⟨h.1,nodupB_spec h.2⟩
theorem closeL_spec {J:Nat->Option (Nat×Nat)} {N:Nat->List Nat} {tm:Array Value} {S':Nat->Prop} {J':Nat->Option (Nat×Nat)} {σ':Sto} (h:St X Z w tm J N) (hF:∀b,Fz X w N Z.s b->S' b) :
  ∀{ps qs:List PV} {us:List Value} {A B:List Nat},All2 (ValS (Fz X w N Z.s) w J Z.s) ps us->closeL Z.s ps=some (qs,A,B)->(∀id∈B,∀b∈N id,S' b)->(∀id∈A,∃blk,(Z.s id).blk=some blk)/\All3 (OwnS S' w J' σ') qs us (A.map N).flatten
 | [],qs,[],A,B,_,hc,_=>by cases hc;exact⟨by simp,rfl⟩
 | p::ps,qs,u::us,A,B,⟨h1,h2⟩,hc,hB=>by
  unfold closeL at hc
  split at hc
  ·rename_i q a b qs' c d e1 e2
   cases hc
   obtain⟨k1,k2⟩:=closeS_spec (J':=J') (σ':=σ') h hF h1 e1 (fun id hid=>hB id (List.mem_append.2 (.inl hid)))
   obtain⟨k3,k4⟩:=closeL_spec (J':=J') (σ':=σ') h hF h2 e2 (fun id hid=>hB id (List.mem_append.2 (.inr hid)))
   refine⟨fun id hid=>(List.mem_append.1 hid).elim (k1 id) (k3 id),_,_,?_,k2,k4⟩
   rw[List.map_append,List.flatten_append]
  ·cases hc
 | [],_,_::_,_,_,h,_,_=>h.elim
 | _::_,_,[],_,_,h,_,_=>h.elim
theorem close1_spec {tm:Array Value} (h:St X Z w tm J N) (hF:∀b,Fz X w N Z.s b->S' b) (hv:ValC (Fz X w N Z.s) w J Z.s p u) (hc:close1 Z.s p=some (q,A,B))
  (hB:∀id∈B,∀b∈N id,S' b):(∀id∈A,∃blk,(Z.s id).blk=some blk)/\Own1 S' w J' σ' q u (A.map N).flatten:=by
 by_cases ha:∃cs,p= .agg cs
 ·obtain⟨cs,rfl⟩:=ha
  obtain⟨us,rfl,hv⟩:=hv
  unfold close1 at hc
  split at hc
  ·rename_i cs' e
   cases e
   split at hc
   ·rename_i qs a b e
    cases hc
    obtain⟨k1,k2⟩:=closeL_spec (J':=J') (σ':=σ') h hF hv e hB
    exact⟨k1,us,rfl,k2⟩
   ·cases hc
  ·rename_i hne;exact absurd rfl (hne cs)
 ·have hc':closeS Z.s p=some (q,A,B):=by
   unfold close1 at hc
   split at hc
   ·exact absurd ⟨_,rfl⟩ ha
   ·exact hc
  have hnt:∀vs,p≠ .tup vs:=by rintro vs rfl;cases hc'
  obtain⟨k1,k2⟩:=closeS_spec (J':=J') (σ':=σ') h hF (hv.vs (fun cs e=>ha ⟨cs,e⟩) hnt) hc' hB
  refine⟨k1,?_⟩
  have hqa:∀cs,q≠ .agg cs:=by
   rintro cs rfl
   unfold closeS at hc'
   repeat (split at hc'<;>try cases hc')
  cases q<;>first|exact k2|exact absurd rfl (hqa _)
theorem St.nodups {J:Nat->Option (Nat×Nat)} {N:Nat->List Nat} {tm:Array Value} (h:St X Z w tm J N):∀{A:List Nat},A.Nodup->(∀id∈A,∃blk,(Z.s id).blk=some blk)->(A.map N).flatten.Nodup
 | [],_,_=>by simp
 | x::xs,hn,hl=>by
  obtain⟨h1,h2⟩:=List.nodup_cons.1 hn
  obtain⟨b,hb⟩:=hl x (by simp)
  simp only[List.map_cons,List.flatten_cons,List.nodup_append]
  refine⟨h.nodup x b hb,h.nodups h2 fun id hid=>hl id (by simp[hid]),fun y hy z hz e=> ?_⟩
  subst e
  obtain⟨q,hq,hz⟩:=List.mem_flatten.1 hz
  obtain⟨id,hid,rfl⟩:=List.mem_map.1 hq
  obtain⟨b',hb'⟩:=hl id (by simp[hid])
  exact h.disj x id b b' hb hb' (fun e=>h1 (e▸hid)) y hy hz
end
open Go.RowKit
section
variable {P:Program} {PC:Con} {X:Ctx} {nt:Nat} {Q:Exit->Act->World->Prop} {Z:Env} {a:Act} {w:World} {o:Oper} {v:PV} {s':Sto} {r wr:List Nat}
def LiveL (s:Sto) (B:List Nat):Prop:=∀id∈B,∃blk,(s id).blk=some blk
theorem LiveL.nil:LiveL s []:=by simp[LiveL]
theorem LiveL.app (h1:LiveL s A) (h2:LiveL s B):LiveL s (A++B):=fun id hid=>(List.mem_append.1 hid).elim (h1 id) (h2 id)
theorem closeS_live (hc:closeS s p=some (q,A,B)):LiveL s A/\LiveL s B:=by
 unfold closeS at hc
 split at hc
 case h_5=>
  split at hc
  ·rename_i hs
   have hl:LiveL s [_]:=fun id hid=>by have e:=List.mem_singleton.1 hid;subst e;exact⟨_,by rw[hs]⟩
   split at hc
   ·split at hc
    ·cases hc;exact⟨hl,LiveL.nil⟩
    ·cases hc;exact⟨LiveL.nil,hl⟩
   ·cases hc
  ·rename_i hs
   have hl:LiveL s [_]:=fun id hid=>by have e:=List.mem_singleton.1 hid;subst e;exact⟨_,by rw[hs]⟩
   split at hc
   ·split at hc
    ·cases hc;exact⟨hl,LiveL.nil⟩
    ·cases hc;exact⟨LiveL.nil,hl⟩
   ·cases hc
  ·cases hc
 case h_6=>
  split at hc
  ·rename_i hs
   have hl:LiveL s [_]:=fun id hid=>by have e:=List.mem_singleton.1 hid;subst e;exact⟨_,by rw[hs]⟩
   split at hc
   ·cases hc;exact⟨hl,LiveL.nil⟩
   ·cases hc
  ·cases hc
 all_goals first|(cases hc;exact⟨LiveL.nil,LiveL.nil⟩)|cases hc
theorem closeL_live {s:Sto}:∀{ps qs:List PV} {A B:List Nat},closeL s ps=some (qs,A,B)->LiveL s A/\LiveL s B
 | [],_,_,_,hc=>by cases hc;exact⟨LiveL.nil,LiveL.nil⟩
 | p::ps,_,_,_,hc=>by
  unfold closeL at hc
  split at hc
  ·rename_i e1 e2
   cases hc
   obtain⟨k1,k2⟩:=closeS_live e1
   obtain⟨k3,k4⟩:=closeL_live e2
   exact⟨k1.app k3,k2.app k4⟩
  ·cases hc
theorem res1_run (hF:Facts P) (hst:St X Z w a.tmps J N) (hs:a.tmps.size=nt) {x:ResultVar} {v:PV} (h:res1 nt Z x=some v) :
  ∃u,((match x with| .tmp t=>pure (a.tmps.getD t undef)| .cell p t=>do loadVar t (<-asAddr (a.tmps.getD p undef)):Sem Value)).run P w= .ok u w/\ValC (Fz X w N Z.s) w J Z.s v u:=by
 cases x with
 | tmp t=>
  simp only[res1]at h
  split at h
  ·rename_i hlt
   cases h
   have hlt':t<a.tmps.size:=by rw[hs];exact hlt
   exact⟨a.tmps[t],by simp[Array.getD,hlt',Sem.run_pure],hst.tmp t _ (by simp[hlt'])⟩
  ·cases h
 | cell p t=>
  simp only[res1]at h
  split at h
  case isFalse=>cases h
  rename_i hlt
  have hlt':p<a.tmps.size:=by rw[hs];exact hlt
  have hv:=hst.tmp p a.tmps[p] (by simp[hlt'])
  split at h
  case h_2=>cases h
  rename_i ag n id ver i j ht he
  rw[he]at hv
  obtain⟨_,_,k3⟩:=hv
  split at h
  case h_2=>cases h
  rename_i v2 cs hid
  split at h
  case isFalse=>cases h
  rename_i hver
  subst hver
  obtain⟨b,off,hβ,hp⟩:=k3 _ hid
  obtain⟨b',off',hβ',hc⟩:=blk_cells_box (hst.blk id _ (by rw[hid]))
  rw[hβ]at hβ';cases hβ'
  have hr:(rangeV ag cs j n).Run (fun _ _ _ _ _=>False) Z.s v Z.s [] []:=by
   unfold cellsAt at h
   unfold rangeV mkVal
   split at h
   ·rename_i hlen
    rw[if_pos hlen]
    cases ag with
    | true=>cases h;exact⟨rfl,rfl,rfl,rfl⟩
    | false=>
     simp only[Bool.false_eq_true,if_false]at h⊢
     split at h
     ·rename_i c hcs;cases h;try rw[hcs]
      exact⟨rfl,rfl,rfl,rfl⟩
     ·cases h
   ·cases h
  obtain⟨_,u,hrun,hvv⟩:=rangeV_run hF ht hr hc
  refine⟨u,?_,hvv⟩
  have:a.tmps.getD p undef= .pointer (some ⟨b,off+j,none⟩):=by simp[Array.getD,hlt'];exact hp
  simp only[this,asAddr,Sem.run_bind,Sem.run_pure,Result.andThen_ok,hrun]
def resS (tmps:Array Value):ResultVar->Sem Value
 | .tmp t=>pure (tmps.getD t undef)
 | .cell p t=>do loadVar t (<-asAddr (tmps.getD p undef))
theorem resL_run (hF:Facts P) {J:Nat->Option (Nat×Nat)} {N:Nat->List Nat} (hst:St X Z w a.tmps J N) (hs:a.tmps.size=nt):∀{rs:List ResultVar} {vs:List PV},resL nt Z rs=some vs->
  ∃us:List Value,(rs.mapM (resS a.tmps)).run P w=Result.ok us w/\All2 (ValC (Fz X w N Z.s) w J Z.s) vs us
 | [],_,h=>by cases h;exact⟨[],by simp[Sem.run_pure],trivial⟩
 | x::xs,_,h=>by
  unfold resL at h
  split at h
  ·rename_i v vs h1 h2
   cases h
   obtain⟨u,hu,hv⟩:=res1_run hF hst hs h1
   obtain⟨us,hus,hall⟩:=resL_run hF hst hs h2
   refine⟨u::us,?_,hv,hall⟩
   have hu':(resS a.tmps x).run P w= .ok u w:=by cases x<;>exact hu
   rw[List.mapM_cons]
   simp only[Sem.run_bind,hu',Result.andThen_ok,hus,Sem.run_pure]
  ·cases h
def oneVal (us:List Value):Value:=match us with
 | [u]=>u
 | _=> .tuple us.toArray
theorem results_run {fn:Func} (h:(fn.results.toList.mapM (resS a.tmps)).run P w=Result.ok us w):(results fn a.tmps).run P w=Result.ok (oneVal us) w:=by
 have e:results fn a.tmps=(do let vs <-fn.results.mapM (resS a.tmps);pure (if h:vs.size=1 then vs[0]else .tuple vs)):=by
  unfold results
  congr 1
 rw[e]
 have e2:fn.results.mapM (resS a.tmps)=List.toArray <$> fn.results.toList.mapM (resS a.tmps):=by
  rw[<-List.mapM_toArray]
 rw[e2]
 simp only[Sem.run_bind,map_eq_pure_bind,h,Result.andThen_ok,Sem.run_pure]
 match us with
 | []=>rfl
 | [u]=>rfl
 | u::u2::us=>simp[oneVal]
end
open Go.RowKit
inductive wkD:PV->PV->Prop
 | nil (k:K):wkD .nil (.drow k [])
 | row (k:K) (l:List (ty k)):wkD (.drow k l) (.row false k l)
 | own (k:K) (l:List (ty k)):wkD (.drow k l) (.row true k l)
 | flat (k:K) (l:List (ty k)) (h:flat k=true):wkD (.row true k l) (.drow k l)
def wkS (p q:PV):Prop:=p=q∨(p= .nil/\∃o k,q= .row o k [])∨(∃k l,p= .row true k l/\q= .row false k l)∨(∃x lf,p= .v x/\q=leafPV lf/\(wfV x->lf= .sc x))∨wkD p q
def wk1 (p q:PV):Prop:=wkS p q∨∃cs ds,p= .agg cs/\q= .agg ds/\All2 wkS cs ds
def Wk (w:World) (S1:Nat->Prop) (u:Value) (L:List Nat) (R:(Nat->Prop)->List Nat->Prop):Prop:=
 ∃L':List Nat,L'.Sublist L/\∀S2:Nat->Prop,(∀b,S1 b->S2 b)->(∀b∈L,b∉L'->S2 b)->R S2 L'
section
variable {w:World} {J:Nat->Option (Nat×Nat)} {σ:Sto}
theorem OwnS.up (h:OwnS S1 w J σ p u L) (hS:∀b,S1 b->S2 b):OwnS S2 w J σ p u L:=by
 have T:Tr S1 S2 w w J J σ σ:=⟨fun h=>h.mono hS fun _ _ _ _ h=>h,fun h=>h,fun h=>h⟩
 cases p with
 | row own k l=>cases own with
  | true=>exact Own.mono h (fun _ _=>rfl) hS fun _ _ _ _ h=>h
  | false=>exact⟨h.1,T.vs h.2⟩
 | v x=>exact⟨h.1,T.vs (p:= .v x) h.2⟩
 | nil=>exact⟨h.1,T.vs (p:= .nil) h.2⟩
 | ref a b c d e=>exact⟨h.1,T.vs (p:= .ref a b c d e) h.2⟩
 | ptr a b c d=>exact⟨h.1,T.vs (p:= .ptr a b c d) h.2⟩
 | eptr k l i j=>exact⟨h.1,T.vs (p:= .eptr k l i j) h.2⟩
 | agg cs=>exact⟨h.1,T.vs (p:= .agg cs) h.2⟩
 | tup cs=>exact⟨h.1,T.vs (p:= .tup cs) h.2⟩
 | fn f caps=>exact⟨h.1,T.vs (p:= .fn f caps) h.2⟩
 | un=>exact⟨h.1,T.vs (p:= .un) h.2⟩
 | obj o=>exact h
 | drow k l=>exact h
 | gb r b=>exact⟨h.1,T.vs (p:= .gb r b) h.2⟩
 | dead=>exact⟨h.1,trivial⟩
theorem Own.deep (hk:Go.Px.flat k=true) {l:List (ty k)} (h:Own S w k u l L):DOwn w k u l L:=by
 rcases h with⟨h1,h2,h3⟩ |⟨g,cap,cur,h1,h2,h3,h4,h5,h6,h7,h8⟩
 ·exact DOwn_iff.2 (.inl ⟨h1,h2,h3⟩)
 ·refine DOwn_iff.2 (.inr ⟨g,cap,cur,[],h1,h2,h3,h4,h5,h6,h7,?_⟩)
  have hle:l.length*size k<=cur.size:=by rw[h7];exact Nat.mul_le_mul_right _ h5
  have key:∀(as:List Leaf) (bs:List Value),as.length=bs.length->(∀(i:Nat) lf u,as[i]?=some lf->bs[i]?=some u->∃q,lf= .sc q/\u=q/\wfV q)->All3 (DLeaf w) as bs []:=by
   intro as
   induction as with
   | nil=>intro bs hl _;cases bs with
    | nil=>rfl
    | cons _ _=>simp at hl
   | cons a as ih=>intro bs hl h;cases bs with
    | nil=>simp at hl
    | cons b bs=>
     obtain⟨q,rfl,rfl,hw⟩:=h 0 a b rfl rfl
     exact⟨[],[],rfl,⟨⟨rfl,hw⟩,rfl⟩,ih bs (by simpa using hl) fun i lf u h1 h2=>h (i+1) lf u (by simpa using h1) (by simpa using h2)⟩
  refine key _ _ (by rw[flat_len,List.length_take];exact(Nat.min_eq_left (by rw[Array.length_toList];exact hle)).symm) fun m lf v hm hv=> ?_
  have hml:m<l.length*size k:=by have:=(qS1.1 hm).1;rwa[flat_len]at this
  have hp:=size_pos k
  have hi:m / size k<l.length:=(Nat.div_lt_iff_lt_mul hp).2 hml
  have hx:l[m / size k]?=some l[m / size k]:=qE1 hi
  have hm2:=flat_get hx (Nat.mod_lt m hp)
  rw[Nat.div_add_mod',hm]at hm2
  obtain⟨u',hu',hv'⟩:=h8 _ _ hx _ lf hm2.symm
  simp only at hu'
  rw[Nat.div_add_mod']at hu'
  obtain⟨q,rfl⟩:=flat_sc hk _ lf (qM1 hm2.symm)
  rw[List.getElem?_take,if_pos hml]at hv
  have:v=u':=by
   have h9:cur[m]?=some v:=by simpa using hv
   rw[hu']at h9;exact(Option.some.inj h9).symm
  subst this
  exact⟨q,rfl,hv'⟩
theorem wkD_own (hn:L.Nodup) (h:wkD p q) (ho:OwnS S1 w J σ p u L):Wk w S1 u L fun S L=>OwnS S w J σ q u L:=by
 cases h with
 | nil k=>
  obtain⟨rfl,e⟩:=ho
  have e:u= .slice none 0 0:=e
  exact⟨[],List.Sublist.refl _,fun S2 hS _=>DOwn_iff.2 (.inl ⟨e,rfl,rfl⟩)⟩
 | row k l=>exact⟨[],List.nil_sublist _,fun S2 hS hL=>⟨rfl,rfl,DOwn.row _ (Nat.lt_succ_self _) ho fun b hb=>hL b hb (by simp)⟩⟩
 | own k l=>
  rcases DOwn_iff.1 ho with⟨h1,h2,h3⟩ |⟨g,cap,cur,L',h1,h2,h3⟩
  ·subst h3
   exact⟨[],List.Sublist.refl _,fun S2 _ _=> .inl ⟨h1,h2,rfl⟩⟩
  ·subst h2
   refine⟨[g],List.Sublist.cons_cons _ (List.nil_sublist _),fun S2 hS hL=> .inr ⟨g,cap,cur,h1,rfl,h3.cont fun b hb=>hL b (by simp[hb]) ?_⟩⟩
   intro h
   rw[List.mem_singleton.1 h]at hb
   exact(List.nodup_cons.1 hn).1 hb
 | flat k l hk=>exact⟨L,List.Sublist.refl _,fun S2 _ _=>Own.deep hk ho⟩
theorem wkS_own (hn:L.Nodup) (h:wkS p q) (ho:OwnS S1 w J σ p u L):Wk w S1 u L fun S L=>OwnS S w J σ q u L:=by
 rcases h with rfl|⟨rfl,o,k,rfl⟩ |⟨k,l,rfl,rfl⟩ |⟨x,lf,rfl,rfl,hlf⟩ | hd
 ·exact⟨L,List.Sublist.refl _,fun S2 hS _=>ho.up hS⟩
 ·obtain⟨rfl,e⟩:=ho
  have e:u= .slice none 0 0:=e
  subst e
  refine⟨[],List.Sublist.refl _,fun S2 hS _=> ?_⟩
  cases o with
  | true=>exact .inl ⟨rfl,rfl,rfl⟩
  | false=>exact⟨rfl,rfl,Row.nil⟩
 ·exact⟨[],List.nil_sublist _,fun S2 hS hL=>⟨rfl,rfl,Own.row ho hS fun b hb=>hL b hb (by simp)⟩⟩
 ·obtain⟨rfl,e,hw⟩:=ho
  rw[hlf hw]
  exact⟨[],List.nil_sublist _,fun S2 hS hL=>⟨rfl,e,hw⟩⟩
 ·exact wkD_own hn hd ho
theorem All3.wk {wk:PV->PV->Prop} {R:(Nat->Prop)->PV->Value->List Nat->Prop} {S1:Nat->Prop} (hwk:∀p q u L,L.Nodup->wk p q->R S1 p u L->Wk w S1 u L fun S L=>R S q u L):∀{ps qs:List PV} {us:List Value} {L:List Nat},L.Nodup->All2 wk ps qs->All3 (R S1) ps us L->Wk w S1 undef L fun S L=>All3 (R S) qs us L
 | [],[],[],L,_,_,h=>⟨[],List.nil_sublist _,fun _ _ _=>rfl⟩
 | p::ps,q::qs,u::us,L,hn,⟨h1,h2⟩,⟨L1,L2,e,h3,h4⟩=>by
  subst e
  obtain⟨n1,n2,n3⟩:=List.nodup_append.1 hn
  obtain⟨L1',s1,k1⟩:=hwk _ _ _ _ n1 h1 h3
  obtain⟨L2',s2,k2⟩:=All3.wk hwk n2 h2 h4
  refine⟨L1'++L2',s1.append s2,fun S2 hS hL=>⟨L1',L2',rfl,k1 S2 hS fun b hb hb'=>hL b (by simp[hb]) ?_,k2 S2 hS fun b hb hb'=>hL b (by simp[hb]) ?_⟩⟩
  ·intro hm
   rcases List.mem_append.1 hm with hm|hm
   ·exact hb' hm
   ·exact n3 b hb b (s2.mem hm) rfl
  ·intro hm
   rcases List.mem_append.1 hm with hm|hm
   ·exact n3 b (s1.mem hm) b hb rfl
   ·exact hb' hm
 | [],_::_,_,_,_,h,_=>h.elim
 | _::_,[],_,_,_,h,_=>h.elim
 | [],[],_::_,_,_,_,h=>h.elim
 | _::_,_::_,[],_,_,_,h=>h.elim
theorem wkS_own1 (h:wkS p q):(Own1 S w J σ p u L->p=q∨OwnS S w J σ p u L)/\(OwnS S w J σ q u L->p=q∨Own1 S w J σ q u L):=by
 rcases h with rfl|⟨rfl,o,k,rfl⟩ |⟨k,l,rfl,rfl⟩ |⟨x,lf,rfl,rfl,hlf⟩ | hd
 ·exact⟨fun _=> .inl rfl,fun _=> .inl rfl⟩
 ·exact⟨fun h=> .inr h,fun h=> .inr h⟩
 ·exact⟨fun h=> .inr h,fun h=> .inr h⟩
 ·exact⟨fun h=> .inr h,fun h=> .inr (by cases lf<;>exact h)⟩
 ·exact⟨fun h=> .inr (by cases hd<;>exact h),fun h=> .inr (by cases hd<;>exact h)⟩
theorem Own1.up {S1 S2:Nat->Prop} {p:PV} {u:Value} {L:List Nat} (h:Own1 S1 w J σ p u L) (hS:∀b,S1 b->S2 b):Own1 S2 w J σ p u L:=by
 by_cases ha:∃cs,p= .agg cs
 ·obtain⟨cs,rfl⟩:=ha
  obtain⟨us,e,h⟩:=h
  exact⟨us,e,All3.mono (fun a b L' _ h=>OwnS.up h hS) h⟩
 ·have h':OwnS S1 w J σ p u L:=by cases p<;>first|exact h|exact absurd ⟨_,rfl⟩ ha
  have:=OwnS.up h' hS
  cases p<;>first|exact this|exact absurd ⟨_,rfl⟩ ha
theorem wk1_own (hn:L.Nodup) (h:wk1 p q) (ho:Own1 S1 w J σ p u L):Wk w S1 u L fun S L=>Own1 S w J σ q u L:=by
 rcases h with h|⟨cs,ds,rfl,rfl,h⟩
 ·rcases(wkS_own1 (w:=w) (J:=J) (σ:=σ) h).1 ho with rfl|ho'
  ·exact⟨L,List.Sublist.refl _,fun S2 hS _=>ho.up hS⟩
  ·obtain⟨L',s,k⟩:=wkS_own hn h ho'
   refine⟨L',s,fun S2 hS hL=> ?_⟩
   rcases(wkS_own1 (w:=w) (J:=J) (σ:=σ) h).2 (k S2 hS hL)with rfl|h2
   ·have h3:=k S2 hS hL
    by_cases ha:∃cs,p= .agg cs
    ·obtain⟨cs,rfl⟩:=ha
     exact h3.2.elim
    ·cases p<;>first|exact h3|exact absurd ⟨_,rfl⟩ ha
   ·exact h2
 ·obtain⟨us,rfl,ho⟩:=ho
  obtain⟨L',s,k⟩:=All3.wk (R:=fun S p u L=>OwnS S w J σ p u L) (fun p q u L hn h ho=>wkS_own hn h ho) hn h ho
  exact⟨L',s,fun S2 hS hL=>⟨us,rfl,k S2 hS hL⟩⟩
theorem OwnV.up {S1 S2:Nat->Prop} {p:PV} {u:Value} {L:List Nat} (h:OwnV S1 w J σ p u L) (hS:∀b,S1 b->S2 b):OwnV S2 w J σ p u L:=by
 by_cases ha:∃cs,p= .tup cs
 ·obtain⟨cs,rfl⟩:=ha
  obtain⟨us,e,h⟩:=h
  exact⟨us,e,All3.mono (fun a b L' _ h=>Own1.up h hS) h⟩
 ·have h':Own1 S1 w J σ p u L:=by cases p<;>first|exact h|exact absurd ⟨_,rfl⟩ ha
  have:=Own1.up h' hS
  cases p<;>first|exact this|exact absurd ⟨_,rfl⟩ ha
end
theorem Arrive.mono {P:Program} {f:FuncId} {xs:Array Value} {w:World} {R R':Ending->World->Prop} (h:Arrive P f xs w R) (hr:∀e w',R e w'->R' e w'):Arrive P f xs w R':=by
 unfold Arrive at h⊢
 split at h
 ·exact hr _ _ h
 ·exact Calls.mono h hr
 ·exact h.elim
open Go.RowKit
section
variable {P:Program} {PC:Con} {X:Ctx} {nt:Nat} {Q:Exit->Act->World->Prop} {Z:Env} {a:Act} {w:World} {o:Oper} {v:PV} {s':Sto} {r wr:List Nat}
theorem own_frozenS {w:World} (hp:noOwnS p=true) (h:OwnS S w J σ p u L) (hS:∀b,S b->S' b):L=[]/\ValS S' w J' σ' p u:=by
 cases p with
 | row own k l=>
  cases own with
  | true=>cases hp
  | false=>obtain⟨rfl,_,h⟩:=h;exact⟨rfl,rfl,h.mono hS fun _ _ _ _ h=>h⟩
 | v x=>exact h
 | nil=>exact h
 | ref=>cases hp
 | ptr=>cases hp
 | eptr k l i j=>obtain⟨rfl,b,off,h1,h2,h3⟩:=h;exact⟨rfl,b,off,h1,h2,h3.mono hS fun _ _ _ _ h=>h⟩
 | agg cs=>exact⟨h.1,h.2⟩
 | tup vs=>exact⟨h.1,h.2⟩
 | fn f caps=>
  obtain⟨rfl,us,h1,h2⟩:=h
  have:caps=[]:=by cases caps<;>simp_all[noOwnS]
  subst this
  refine⟨rfl,us,h1,?_⟩
  cases hu:us.toList with
  | nil=>trivial
  | cons x xs=>rw[hu]at h2;exact h2.elim
 | un=>exact h
 | obj o=>cases hp
 | drow=>cases hp
 | gb=>cases hp
 | dead=>exact h
theorem val1_valC {w:World} (h:Val1 S w J σ p u):ValC S w J σ p u:=by
 cases p<;>first|exact h|exact h.elim
end
open Go.RowKit
section
variable {P:Program} {PC:Con} {X:Ctx} {nt:Nat} {Q:Exit->Act->World->Prop} {Z:Env} {a:Act} {w:World} {o:Oper} {v:PV} {s':Sto} {r wr:List Nat}
theorem StS.open0 {tm:Array Value} (h:StS X S Z w tm J N) {id:Nat} (h99:99<=id) (hver:(Z.s id).ver<ver) (blk:Blk) (p:Option (Nat×Nat)) (L:List Nat) (hblk:∀J' σ',J' id=p->BlkC S w J' σ' L id blk) (hlt:∀x∈L,x<w.heap.size) (hnd:L.Nodup)
  (hS:∀x∈L,¬S x) (hnew:∀x∈L,x∈X.F∨X.w0.heap.size<=x) (hdj:∀id b,(Z.s id).blk=some b->∀x∈L,x∉N id) :
  StS X S ⟨Z.t,upd Z.s id ⟨ver,some blk⟩⟩ w tm (upd J id p) (upd N id L)/\Tr S S w w J (upd J id p) Z.s (upd Z.s id ⟨ver,some blk⟩):=by
 have hid:∀p,X.ext[id]?≠some p:=fun p e=>by
  have:=(qS1.1 e).1
  have:=X.few
  omega
 have T:Tr S S w w J (upd J id p) Z.s (upd Z.s id ⟨ver,some blk⟩):=by
  refine⟨fun h=>h,fun{i v o n f u} hr=> ?_,fun{i v i' j' u} hr=> ?_⟩
  ·obtain⟨k1,k2,k3⟩:=hr
   by_cases hi:i=id
   ·subst hi
    refine⟨by rw[upd_same];exact Nat.le_of_lt (Nat.lt_of_le_of_lt k1 hver),k2,fun blk k l e hr=> ?_⟩
    rw[upd_same]at e;cases e;omega
   ·refine⟨by rw[upd_ne _ _ hi];exact k1,k2,fun blk k l e hr=> ?_⟩
    rw[upd_ne _ _ hi]at e
    rw[upd_ne _ _ hi]
    exact k3 _ k l e hr
  ·obtain⟨k1,k2,k3⟩:=hr
   by_cases hi:i=id
   ·subst hi
    refine⟨by rw[upd_same];exact Nat.le_of_lt (Nat.lt_of_le_of_lt k1 hver),k2,fun blk e=> ?_⟩
    rw[upd_same]at e;cases e;omega
   ·refine⟨by rw[upd_ne _ _ hi];exact k1,k2,fun blk e=> ?_⟩
    rw[upd_ne _ _ hi]at e
    rw[upd_ne _ _ hi]
    exact k3 blk e
 refine⟨⟨fun t u hu=>T.vc (h.tmp t u hu),fun i b hb=> ?_,fun i b hb=> ?_,fun i b hb=> ?_,fun i i' b b' hb hb' hne=> ?_,fun i b hb=> ?_,fun j q hj=> ?_,fun q u n hq=> ?_,h.frm,h.env,fun b hb=> ?_⟩,T⟩
 ·by_cases hi:i=id
  ·subst hi
   simp only[upd_same]at hb
   cases hb
   rw[upd_same]
   exact hblk _ _ (upd_same _ _ _)
  ·simp only[upd_ne _ _ hi]at hb
   rw[upd_ne _ _ hi]
   exact T.blk (upd_ne _ _ hi) (fun _ _=>rfl) (h.blk i b hb)
 ·by_cases hi:i=id
  ·subst hi;rw[upd_same];exact hlt
  ·simp only[upd_ne _ _ hi]at hb;rw[upd_ne _ _ hi];exact h.lt i b hb
 ·by_cases hi:i=id
  ·subst hi;rw[upd_same];exact hnd
  ·simp only[upd_ne _ _ hi]at hb;rw[upd_ne _ _ hi];exact h.nodup i b hb
 ·by_cases hi:i=id
  ·subst hi
   have hi':i'≠i:=fun e=>hne e.symm
   simp only[upd_ne _ _ hi']at hb'
   rw[upd_same,upd_ne _ _ hi']
   exact hdj i' b' hb'
  ·by_cases hi':i'=id
   ·subst hi'
    simp only[upd_ne _ _ hi]at hb
    rw[upd_same,upd_ne _ _ hi]
    exact fun x hx hx'=>hdj i b hb x hx' hx
   ·simp only[upd_ne _ _ hi]at hb
    simp only[upd_ne _ _ hi']at hb'
    rw[upd_ne _ _ hi,upd_ne _ _ hi']
    exact h.disj i i' b b' hb hb' hne
 ·by_cases hi:i=id
  ·subst hi;rw[upd_same];exact hnew
  ·simp only[upd_ne _ _ hi]at hb;rw[upd_ne _ _ hi];exact h.new i b hb
 ·have hi:j≠id:=fun e=>hid q (e▸hj)
  simp only[upd_ne _ _ hi]
  exact h.ext j q hj
 ·obtain⟨h1,b0,k0,l0,h2,h3,h4,h5⟩:=h.rxt q u n hq
  exact⟨h1,b0,k0,l0,by show upd Z.s id _ (50+q)=_;rw[upd_ne _ _ (show 50+q≠id by omega)];exact h2,h3,h4,T.ref h5⟩
 ·obtain⟨h1,h2,h2'⟩:=h.fz b hb
  refine⟨h1,?_,h2'⟩
  rintro⟨i,blk,h3,h4⟩
  by_cases hi:i=id
  ·subst hi;rw[upd_same]at h4;exact hS b h4 hb
  ·simp only[upd_ne _ _ hi]at h3;rw[upd_ne _ _ hi]at h4;exact h2 ⟨i,blk,h3,h4⟩
theorem ref_full {id:Nat} {blk:Blk} {l:List (ty k)} (hs:σ id=⟨ver,some blk⟩) (hr:IsRow blk k l) (h:(J id=none/\l=[]/\u= .slice none 0 0)∨∃b cap cur,J id=some (b,0)/\u= .slice (some ⟨b,0,none⟩) l.length cap/\RowAt w b cur (tid k)/\l.length<=cap/\cur.size=cap*size k) :
  RefC w J σ id ver 0 l.length true u:=by
 refine⟨by rw[hs];exact Nat.le_refl _,?_,fun blk2 k2 l2 e hr2=> ?_⟩
 ·rcases h with⟨h1,h2,h4⟩ |⟨b,cap,cur,h1,h2,h4⟩
  ·exact⟨_,_,_,h4⟩
  ·exact⟨_,_,_,h2⟩
 ·rw[hs]at e
  cases e
  cases hr.same hr2
  refine⟨by omega,?_⟩
  rcases h with⟨h1,h2,h4⟩ |⟨b,cap,cur,h1,h2,h4,h5,h6⟩
  ·exact .inl ⟨h1,h4⟩
  ·refine .inr ⟨b,cap,0,h1,h5,h2,fun _=>by rw[Nat.zero_mul],fun _=>⟨rfl,rfl,fun c2 E2 fz2 hc2=> ?_⟩⟩
   obtain⟨fz,hh,_⟩:=h4
   rw[hh]at hc2
   cases hc2
   exact h6
theorem StS.open {tm:Array Value} (h:StS X S Z w tm J N) {id:Nat} (h99:99<=id) (hver:(Z.s id).ver<ver) {l:List (ty k)} (ho:Own S w k u l L)
  (hS:∀x∈L,¬S x) (hnew:∀x∈L,x∈X.F∨X.w0.heap.size<=x) (hdj:∀id b,(Z.s id).blk=some b->∀x∈L,x∉N id) :
  ∃p,StS X S ⟨Z.t,upd Z.s id ⟨ver,some (.rowb k l)⟩⟩ w tm (upd J id p) (upd N id L)/\Tr S S w w J (upd J id p) Z.s (upd Z.s id ⟨ver,some (.rowb k l)⟩)/\ValS S w (upd J id p) (upd Z.s id ⟨ver,some (.rowb k l)⟩) (.ref id ver 0 l.length true) u:=by
 obtain⟨p,hp⟩:∃p:Option (Nat×Nat),(p=none/\l=[]/\L=[]/\u= .slice none 0 0)∨∃b cap cur,p=some (b,0)/\u= .slice (some ⟨b,0,none⟩) l.length cap/\L=[b]/\OwnAt S w b l cap cur:=by
  rcases ho with⟨h1,h2,h3⟩ |⟨g,cap,cur,h1,h2,h3⟩
  ·exact⟨none,.inl ⟨rfl,h2,h3,h1⟩⟩
  ·exact⟨some (g,0),.inr ⟨g,cap,cur,rfl,h1,h2,h3⟩⟩
 obtain⟨st,T⟩:=StS.open0 h h99 hver (.rowb k l) p L (fun J' σ' hβ=>by
  rcases hp with⟨h1,h2,h3,h4⟩ |⟨b,cap,cur,h1,h2,h3,h4⟩
  ·exact .inl ⟨hβ.trans h1,h2,h3⟩
  ·exact .inr ⟨b,cap,cur,hβ.trans h1,h3,h4⟩) ho.lt ho.nodup hS hnew hdj
 refine⟨p,st,T,ref_full (upd_same _ _ _) .b ?_⟩
 rw[upd_same]
 rcases hp with⟨h1,h2,h3,h4⟩ |⟨b,cap,cur,h1,h2,h3,h4⟩
 ·exact .inl ⟨h1,h2,h4⟩
 ·exact .inr ⟨b,cap,cur,h1,h2,h4.2.1,h4.2.2.1,h4.2.2.2.2.1⟩
theorem StS.openD {tm:Array Value} (h:StS X S Z w tm J N) {id:Nat} (h99:99<=id) (hver:(Z.s id).ver<ver) {l:List (ty k)} (ho:DOwn w k u l L) (hlt:∀x∈L,x<w.heap.size) (hnd:L.Nodup)
  (hS:∀x∈L,¬S x) (hnew:∀x∈L,x∈X.F∨X.w0.heap.size<=x) (hdj:∀id b,(Z.s id).blk=some b->∀x∈L,x∉N id) :
  ∃p,StS X S ⟨Z.t,upd Z.s id ⟨ver,some (.rowd k l)⟩⟩ w tm (upd J id p) (upd N id L)/\Tr S S w w J (upd J id p) Z.s (upd Z.s id ⟨ver,some (.rowd k l)⟩)/\ValS S w (upd J id p) (upd Z.s id ⟨ver,some (.rowd k l)⟩) (.ref id ver 0 l.length true) u:=by
 obtain⟨p,hp⟩:∃p:Option (Nat×Nat),(p=none/\l=[]/\L=[]/\u= .slice none 0 0)∨∃b cap cur L',p=some (b,0)/\u= .slice (some ⟨b,0,none⟩) l.length cap/\L=b::L'/\DAt w b l cap cur L':=by
  rcases DOwn_iff.1 ho with⟨h1,h2,h3⟩ |⟨g,cap,cur,L',h1,h2,h3⟩
  ·exact⟨none,.inl ⟨rfl,h2,h3,h1⟩⟩
  ·exact⟨some (g,0),.inr ⟨g,cap,cur,L',rfl,h1,h2,h3⟩⟩
 obtain⟨st,T⟩:=StS.open0 h h99 hver (.rowd k l) p L (fun J' σ' hβ=>by
  rcases hp with⟨h1,h2,h3,h4⟩ |⟨b,cap,cur,L',h1,h2,h3,h4⟩
  ·exact .inl ⟨hβ.trans h1,h2,h3⟩
  ·exact .inr ⟨b,cap,cur,L',hβ.trans h1,h3,h4⟩) hlt hnd hS hnew hdj
 refine⟨p,st,T,ref_full (upd_same _ _ _) .d ?_⟩
 rw[upd_same]
 rcases hp with⟨h1,h2,h3,h4⟩ |⟨b,cap,cur,L',h1,h2,h3,h4⟩
 ·exact .inl ⟨h1,h2,h4⟩
 ·exact .inr ⟨b,cap,cur,h1,h2,h4.2.1,h4.2.2.1,h4.2.2.2.2.1⟩
theorem StS.openO {tm:Array Value} (h:StS X S Z w tm J N) {id:Nat} (h99:99<=id) (hver:(Z.s id).ver<ver) {o:Obj} {b0:Nat} (hu0:u=objV o b0) (hb0:w.heap[b0]?=some o)
  (hS:∀x∈[b0],¬S x) (hnew:∀x∈[b0],x∈X.F∨X.w0.heap.size<=x) (hdj:∀id b,(Z.s id).blk=some b->∀x∈[b0],x∉N id) :
  StS X S ⟨Z.t,upd Z.s id ⟨ver,some (.objb o)⟩⟩ w tm (upd J id (some (b0,0))) (upd N id [b0])/\Tr S S w w J (upd J id (some (b0,0))) Z.s (upd Z.s id ⟨ver,some (.objb o)⟩)/\ValS S w (upd J id (some (b0,0))) (upd Z.s id ⟨ver,some (.objb o)⟩) (.ptr id ver 0 0) u:=by
 obtain⟨st,T⟩:=StS.open0 h h99 hver (.objb o) (some (b0,0)) [b0] (fun J' σ' hβ=>⟨b0,hβ,rfl,hb0⟩) (fun x hx=>by have e:=List.mem_singleton.1 hx;subst e;exact(Array.getElem?_eq_some_iff.1 hb0).1) (by simp) hS hnew hdj
 refine⟨st,T,by rw[upd_same];exact Nat.le_refl _,?_,fun blk e=> ?_⟩
 ·subst hu0
  cases o<;>first|exact .inl ⟨_,rfl⟩ | exact .inr ⟨_,rfl⟩
 ·rw[upd_same]at e
  cases e
  exact⟨b0,0,by rw[upd_same],fun _=>⟨rfl,hu0⟩⟩
theorem StS.wide {tm:Array Value} (h:StS X S Z w tm J N) (hS:∀b,S b->S' b) (hf:∀b,S' b->Fz X w N Z.s b):StS X S' Z w tm J N/\Tr S S' w w J J Z.s Z.s:=by
 have T:Tr S S' w w J J Z.s Z.s:=⟨fun h=>h.mono hS fun _ _ _ _ h=>h,fun h=>h,fun h=>h⟩
 exact⟨⟨fun t u hu=>T.vc (h.tmp t u hu),fun i b hb=>T.blk rfl (fun _ _=>rfl) (h.blk i b hb),h.lt,h.nodup,h.disj,h.new,h.ext,fun q u n hq=>by obtain⟨h1,b0,k0,l0,h2,h3,h4,h5⟩:=h.rxt q u n hq;exact⟨h1,b0,k0,l0,h2,h3,h4,T.ref h5⟩,h.frm,h.env,hf⟩,T⟩
theorem StS.after {tm:Array Value} (h:StS X S Z w tm J N) (ho:w'.os=w.os) (ht:w'.tape=w.tape) (hu:w'.output=w.output) (hz:w.heap.size<=w'.heap.size) (hsame:∀b,b<w.heap.size->w'.heap[b]?=w.heap[b]?) :
  StS X S Z w' tm J N/\Tr S S w w' J J Z.s Z.s:=by
 have T:Tr S S w w' J J Z.s Z.s:=by
  refine⟨fun hr=>hr.mono (fun _ h=>h) fun b o u hb hu=>cell_same (hsame b (h.fz b hb).1) hu,fun{id ver off n full u} hr=> ?_,fun h=>h⟩
  obtain⟨k1,k2,k3⟩:=hr
  refine⟨k1,k2,fun blk k l e hr=> ?_⟩
  obtain⟨e1,e2⟩:=k3 _ k l e hr
  refine⟨e1,?_⟩
  rcases e2 with e2|⟨b,c,o,e2,e3,e4,e5,e6⟩
  ·exact .inl e2
  ·refine .inr ⟨b,c,o,e2,e3,e4,e5,fun hf=> ?_⟩
   obtain⟨f1,f2,f3⟩:=e6 hf
   refine⟨f1,f2,fun cur E fz hh=>f3 cur E fz ?_⟩
   have hblk:=h.blk id _ (by rw[e])
   have hb:b∈N id:=rowN hr hblk e2
   rw[<-hsame b (h.lt id _ (by rw[e]) b hb)];exact hh
 refine⟨⟨fun t u hu=>T.vc (h.tmp t u hu),fun i b hb=>T.blk rfl (fun x hx=>hsame x (h.lt i b hb x hx)) (h.blk i b hb),fun i b hb x hx=>Nat.lt_of_lt_of_le (h.lt i b hb x hx) hz,h.nodup,h.disj,h.new,h.ext,fun q u n hq=>by obtain⟨h1,b0,k0,l0,h2,h3,h4,h5⟩:=h.rxt q u n hq;exact⟨h1,b0,k0,l0,h2,h3,h4,T.ref h5⟩,h.frm.grow ho ht hu hz hsame,?_,fun b hb=> ?_⟩,T⟩
 ·exact X.cl w w' h.env fun b hb=>hsame b (by have:=X.hw;have:=h.frm.size;omega)
 ·obtain⟨h1,h2⟩:=h.fz b hb
  exact⟨Nat.lt_of_lt_of_le h1 hz,h2⟩
end
open Go.RowKit
def openS (id:Nat):PV->Eff PV
 | .row true k l=>newBlk id (.rowb k l) fun ver=> .ret (.ref id ver 0 l.length true)
 | .drow k l=>newBlk (id+1000000000) (.rowd k l) fun ver=> .ret (.ref (id+1000000000) ver 0 l.length true)
 | .obj o=>newBlk id (.objb o) fun ver=> .ret (.ptr id ver 0 0)
 | .v x=> .ret (.v x)
 | .nil=> .ret .nil
 | .row false k l=> .ret (.row false k l)
 | .eptr k l i j=> .ret (.eptr k l i j)
 | .fn f []=> .ret (.fn f [])
 | .dead=> .ret .dead
 | _=> .fail
def openL (id:Nat):List PV->Eff (List PV)
 | []=> .ret []
 | p::ps=>(openS id p).bind fun q=>(openL (id+1) ps).bind fun qs=> .ret (q::qs)
def open1 (id:Nat):PV->Eff PV
 | .agg cs=>(openL id cs).bind fun qs=> .ret (.agg qs)
 | p=>openS id p
def open1L (id:Nat):List PV->Eff (List PV)
 | []=> .ret []
 | p::ps=>(open1 id p).bind fun q=>(open1L (id+1000) ps).bind fun qs=> .ret (q::qs)
def openR (id:Nat):PV->Eff PV
 | .tup vs=>(open1L id vs).bind fun qs=> .ret (.tup qs)
 | p=>open1 id p
def fzS:PV->Bool
 | .row false _ _=>true| .row true k _=> !flat k| .eptr ..=>true| .fn _ cs=> !cs.isEmpty|_=>false
def fz1:PV->Bool
 | .agg cs=>cs.any fzS
 | p=>fzS p
def fzR:PV->Bool
 | .tup vs=>vs.any fz1
 | p=>fz1 p
def resId (o:Oper):Nat:=match o.dst with
 | some d=>1000000*(d+1)
 | none=>1000000
open Go.RowKit
section
variable {P:Program} {PC:Con} {X:Ctx} {nt:Nat} {Q:Exit->Act->World->Prop} {Z:Env} {a:Act} {w:World} {o:Oper} {v:PV} {t:Nat->PV} {s s':Sto} {r wr:List Nat}
structure Pend (X:Ctx) (S:Nat->Prop) (s:Sto) (N:Nat->List Nat) (L:List Nat):Prop where
 nd:L.Nodup
 ns:∀x∈L,¬S x
 new:∀x∈L,x∈X.F∨X.w0.heap.size<=x
 dj:∀id b,(s id).blk=some b->∀x∈L,x∉N id
theorem Pend.left (h:Pend X S s N (L1++L2)):Pend X S s N L1:=
 ⟨(List.nodup_append.1 h.nd).1,fun x hx=>h.ns x (by simp[hx]),fun x hx=>h.new x (by simp[hx]),fun id b hb x hx=>h.dj id b hb x (by simp[hx])⟩
def Held (s:Sto) (N:Nat->List Nat) (s':Sto) (N':Nat->List Nat) (L:List Nat):Prop:=∀id b,(s' id).blk=some b->∀x∈N' id,x∈L∨∃b',(s id).blk=some b'/\x∈N id
theorem Held.refl:Held s N s N L:=fun id b hb x hx=> .inr ⟨b,hb,hx⟩
theorem Held.app {s1 s3:Sto} {N1 N2 N3:Nat->List Nat} (h1:Held s1 N1 s2 N2 L1) (h2:Held s2 N2 s3 N3 L2):Held s1 N1 s3 N3 (L1++L2):=fun id b hb x hx=>by
 rcases h2 id b hb x hx with h|⟨b',hb',hx'⟩
 ·exact .inl (List.mem_append.2 (.inr h))
 ·rcases h1 id b' hb' x hx' with h|h
  ·exact .inl (List.mem_append.2 (.inl h))
  ·exact .inr h
theorem Pend.right {N':Nat->List Nat} (h:Pend X S s N (L1++L2)) (hh:Held s N s' N' L1):Pend X S s' N' L2:=
 ⟨(List.nodup_append.1 h.nd).2.1,fun x hx=>h.ns x (by simp[hx]),fun x hx=>h.new x (by simp[hx]),fun id b hb x hx hxn=>by
  rcases hh id b hb x hxn with h1|⟨b',hb',h1⟩
  ·exact(List.nodup_append.1 h.nd).2.2 x h1 x hx rfl
  ·exact h.dj id b' hb' x (by simp[hx]) h1⟩
theorem Tr.trans {S3:Nat->Prop} {w1 w2 w3:World} {J1 J2 J3:Nat->Option (Nat×Nat)} {σ1 σ2 σ3:Sto} (h1:Tr S1 S2 w1 w2 J1 J2 σ1 σ2) (h2:Tr S2 S3 w2 w3 J2 J3 σ2 σ3):Tr S1 S3 w1 w3 J1 J3 σ1 σ3:=
 ⟨fun h=>h2.row (h1.row h),fun h=>h2.ref (h1.ref h),fun h=>h2.ptr (h1.ptr h)⟩
theorem Tr.refl {w:World}:Tr S S w w J J σ σ:=⟨fun h=>h,fun h=>h,fun h=>h⟩
theorem ValS.plain {w:World} (hp:noOwnS p=true) (h:ValS S w J σ p u) (hS:∀b,S b->S' b):ValS S' w J' σ' p u:=by
 have h0:OwnS S w J σ p u []:=by
  cases p with
  | row own k l=>cases own with
   | true=>cases hp
   | false=>exact⟨rfl,h⟩
  | obj o=>cases hp
  | drow=>cases hp
  | gb=>cases hp
  | _=>exact⟨rfl,h⟩
 exact(own_frozenS hp h0 hS).2
theorem DOwn.lt {w:World}:∀(n:Nat) {k:K} {v:Value} {l:List (ty k)} {L:List Nat},rank k<n->DOwn w k v l L->∀x∈L,x<w.heap.size
 | 0,_,_,_,_,h,_,_,_=>absurd h (Nat.not_lt_zero _)
 | n+1,k,v,l,L,hn,h,x,hx=>by
  rcases DOwn_iff.1 h with⟨_,_,rfl⟩ |⟨g,cap,cur,L',_,rfl,h1⟩
  ·cases hx
  ·rcases List.mem_cons.1 hx with rfl|hx
   ·exact h1.2.1.lt
   ·have key:∀(as:List Leaf) (bs:List Value) (M:List Nat),(∀lf∈as,∀k' l',lf= .nest k' l'->rank k'<rank k)->All3 (DLeaf w) as bs M->∀x∈M,x<w.heap.size:=by
     intro as
     induction as with
     | nil=>intro bs M _ h x hx;cases bs with
      | nil=>cases h;cases hx
      | cons=>exact h.elim
     | cons lf as ih=>
      intro bs M hr h x hx
      cases bs with
      | nil=>exact h.elim
      | cons u bs=>
       obtain⟨M1,M2,e,h2,h3⟩:=h
       subst e
       rcases List.mem_append.1 hx with hx|hx
       ·cases lf with
        | sc q=>rw[h2.2]at hx;cases hx
        | nest k' l'=>
         have:=hr _ (List.mem_cons_self ..) k' l' rfl
         exact DOwn.lt n (by omega) h2 x hx
       ·exact ih bs M2 (fun lf' hm=>hr lf' (List.mem_cons_of_mem _ hm)) h3 x hx
    refine key _ _ _ (fun lf hlf k' l' e=> ?_) h1.2.2.2.2.2 x hx
    obtain⟨y,_,hy⟩:=List.mem_flatMap.1 hlf
    obtain⟨j,hj⟩:=List.getElem?_of_mem hy
    exact rank_lt y j k' l' (by rw[hj,e])
theorem DOwn.lts {w:World} {v:Value} {l:List (ty k)} (h:DOwn w k v l L):∀x∈L,x<w.heap.size:=DOwn.lt _ (Nat.lt_succ_self _) h
theorem openS_spec {tm:Array Value} (h:StS X S ⟨t,s⟩ w tm J N) {id:Nat} (hid:99<=id) (ho:OwnS S w J0 σ0 p u L) (hp:Pend X S s N L) (hr:(openS id p).Run PC s q s' r wr) :
  ∃J' N',StS X S ⟨t,s'⟩ w tm J' N'/\Tr S S w w J J' s s'/\ValS S w J' s' q u/\Held s N s' N' L:=by
 unfold openS at hr
 split at hr
 ·rename_i k l
  obtain⟨r',wr',hr⟩:=newBlk_run hr
  obtain⟨rfl,rfl,-,-⟩:q=_/\s'=_/\r'=[]/\wr'=[]:=hr
  obtain⟨pl,h1,h2,h3⟩:=StS.open (Z:=⟨t,s⟩) h hid (Nat.lt_succ_self _) ho hp.ns hp.new hp.dj
  refine⟨_,_,h1,h2,h3,fun i b hb x hx=> ?_⟩
  by_cases hi:i=id
  ·subst hi;rw[upd_same]at hx;exact .inl hx
  ·rw[upd_ne _ _ hi]at hx hb;exact .inr ⟨b,hb,hx⟩
 ·rename_i k l
  obtain⟨r',wr',hr⟩:=newBlk_run hr
  obtain⟨rfl,rfl,-,-⟩:q=_/\s'=_/\r'=[]/\wr'=[]:=hr
  obtain⟨pl,h1,h2,h3⟩:=StS.openD (Z:=⟨t,s⟩) h (id:=id+1000000000) (by omega) (Nat.lt_succ_self _) ho ho.lts hp.nd hp.ns hp.new hp.dj
  refine⟨_,_,h1,h2,h3,fun i b hb x hx=> ?_⟩
  by_cases hi:i=id+1000000000
  ·subst hi;rw[upd_same]at hx;exact .inl hx
  ·rw[upd_ne _ _ hi]at hx hb;exact .inr ⟨b,hb,hx⟩
 ·rename_i o
  obtain⟨r',wr',hr⟩:=newBlk_run hr
  obtain⟨rfl,rfl,-,-⟩:q=_/\s'=_/\r'=[]/\wr'=[]:=hr
  obtain⟨b0,e1,rfl,e2⟩:=ho
  obtain⟨h1,h2,h3⟩:=StS.openO (Z:=⟨t,s⟩) h hid (Nat.lt_succ_self _) e1 e2 hp.ns hp.new hp.dj
  refine⟨_,_,h1,h2,h3,fun i b hb x hx=> ?_⟩
  by_cases hi:i=id
  ·subst hi;rw[upd_same]at hx;exact .inl hx
  ·rw[upd_ne _ _ hi]at hx hb;exact .inr ⟨b,hb,hx⟩
 ·obtain⟨rfl,rfl,-,-⟩:q=_/\s'=_/\r=[]/\wr=[]:=hr;exact⟨J,N,h,Tr.refl,ho.2,Held.refl⟩
 ·obtain⟨rfl,rfl,-,-⟩:q=_/\s'=_/\r=[]/\wr=[]:=hr;exact⟨J,N,h,Tr.refl,ho.2,Held.refl⟩
 ·obtain⟨rfl,rfl,-,-⟩:q=_/\s'=_/\r=[]/\wr=[]:=hr;exact⟨J,N,h,Tr.refl,ho.2,Held.refl⟩
 ·obtain⟨rfl,rfl,-,-⟩:q=_/\s'=_/\r=[]/\wr=[]:=hr;exact⟨J,N,h,Tr.refl,ho.2,Held.refl⟩
 ·obtain⟨rfl,rfl,-,-⟩:q=_/\s'=_/\r=[]/\wr=[]:=hr;exact⟨J,N,h,Tr.refl,ValS.plain rfl ho.2 (fun _ h=>h),Held.refl⟩
 ·obtain⟨rfl,rfl,-,-⟩:q=_/\s'=_/\r=[]/\wr=[]:=hr;exact⟨J,N,h,Tr.refl,trivial,Held.refl⟩
 ·exact hr.elim
theorem openL_spec {S:Nat->Prop} {tm:Array Value} {J0:Nat->Option (Nat×Nat)} {σ0:Sto}:∀{ps qs:List PV} {us:List Value} {id:Nat} {L:List Nat} {J:Nat->Option (Nat×Nat)} {N:Nat->List Nat} {s s':Sto} {r wr:List Nat},StS X S ⟨t,s⟩ w tm J N->99<=id->All3 (OwnS S w J0 σ0) ps us L->Pend X S s N L->(openL id ps).Run PC s qs s' r wr->
  ∃J' N',StS X S ⟨t,s'⟩ w tm J' N'/\Tr S S w w J J' s s'/\All2 (ValS S w J' s') qs us/\Held s N s' N' L
 | [],qs,[],id,L,J,N,s,s',r,wr,h,_,ho,hp,hr=>by
  obtain⟨rfl,rfl,-,-⟩:=hr
  exact⟨J,N,h,Tr.refl,trivial,Held.refl⟩
 | p::ps,qs,u::us,id,L,J,N,s,s',r,wr,h,hid,ho,hp,hr=>by
  obtain⟨L1,L2,rfl,h1,h2⟩:=ho
  obtain⟨a1,s1,r1,w1,r2,w2,k1,k2⟩:=bind_run hr
  obtain⟨a2,s2,r3,w3,r4,w4,k3,k4⟩:=bind_run k2
  obtain⟨e,e2,-,-⟩:=k4
  subst e e2
  obtain⟨J1,N1,m1,m2,m3,m4⟩:=openS_spec h hid h1 hp.left k1
  obtain⟨J2,N2,m5,m6,m7,m8⟩:=openL_spec m1 (by omega) h2 (hp.right m4) k3
  exact⟨J2,N2,m5,m2.trans m6,⟨m6.vs m3,m7⟩,m4.app m8⟩
 | [],_,_::_,_,_,_,_,_,_,_,_,_,_,h,_,_=>h.elim
 | _::_,_,[],_,_,_,_,_,_,_,_,_,_,h,_,_=>h.elim
theorem openS_noAgg {id:Nat} (hr:(openS id p).Run PC s q s' r wr):(∀cs,q≠ .agg cs)/\∀cs,q≠ .tup cs:=by
 unfold openS at hr
 split at hr
 ·obtain⟨r',wr',hr⟩:=newBlk_run hr
  obtain⟨rfl,-,-,-⟩:=hr
  exact⟨by simp,by simp⟩
 ·obtain⟨r',wr',hr⟩:=newBlk_run hr
  obtain⟨rfl,-,-,-⟩:=hr
  exact⟨by simp,by simp⟩
 ·obtain⟨r',wr',hr⟩:=newBlk_run hr
  obtain⟨rfl,-,-,-⟩:=hr
  exact⟨by simp,by simp⟩
 all_goals first|exact hr.elim|(obtain⟨rfl,-,-,-⟩:=hr;exact⟨by simp,by simp⟩)
theorem open1_spec {tm:Array Value} (h:StS X S ⟨t,s⟩ w tm J N) {id:Nat} (hid:99<=id) (ho:Own1 S w J0 σ0 p u L) (hp:Pend X S s N L) (hr:(open1 id p).Run PC s q s' r wr) :
  ∃J' N',StS X S ⟨t,s'⟩ w tm J' N'/\Tr S S w w J J' s s'/\Val1 S w J' s' q u/\Held s N s' N' L:=by
 by_cases ha:∃cs,p= .agg cs
 ·obtain⟨cs,rfl⟩:=ha
  obtain⟨us,rfl,ho⟩:=ho
  obtain⟨a1,s1,r1,w1,r2,w2,k1,k2⟩:=bind_run hr
  obtain⟨e,e2,-,-⟩:=k2
  subst e e2
  obtain⟨J1,N1,m1,m2,m3,m4⟩:=openL_spec h hid ho hp k1
  exact⟨J1,N1,m1,m2,⟨us,rfl,m3⟩,m4⟩
 ·have ho':OwnS S w J0 σ0 p u L:=by cases p<;>first|exact ho|exact absurd ⟨_,rfl⟩ ha
  have hr':(openS id p).Run PC s q s' r wr:=by cases p<;>first|exact hr|exact absurd ⟨_,rfl⟩ ha
  obtain⟨J1,N1,m1,m2,m3,m4⟩:=openS_spec h hid ho' hp hr'
  have hq:=(openS_noAgg hr').1
  exact⟨J1,N1,m1,m2,by cases q<;>first|exact m3|exact absurd rfl (hq _),m4⟩
theorem open1_noTup {id:Nat} (hr:(open1 id p).Run PC s q s' r wr):∀cs,q≠ .tup cs:=by
 by_cases ha:∃cs,p= .agg cs
 ·obtain⟨cs,rfl⟩:=ha
  obtain⟨a1,s1,r1,w1,r2,w2,k1,k2⟩:=bind_run hr
  obtain⟨e,-,-,-⟩:=k2
  subst e
  simp
 ·have hr':(openS id p).Run PC s q s' r wr:=by cases p<;>first|exact hr|exact absurd ⟨_,rfl⟩ ha
  exact(openS_noAgg hr').2
theorem open1L_spec {S:Nat->Prop} {tm:Array Value} {J0:Nat->Option (Nat×Nat)} {σ0:Sto}:∀{ps qs:List PV} {us:List Value} {id:Nat} {L:List Nat} {J:Nat->Option (Nat×Nat)} {N:Nat->List Nat} {s s':Sto} {r wr:List Nat},StS X S ⟨t,s⟩ w tm J N->99<=id->All3 (Own1 S w J0 σ0) ps us L->Pend X S s N L->(open1L id ps).Run PC s qs s' r wr->
  ∃J' N',StS X S ⟨t,s'⟩ w tm J' N'/\Tr S S w w J J' s s'/\All2 (Val1 S w J' s') qs us/\Held s N s' N' L
 | [],qs,[],id,L,J,N,s,s',r,wr,h,_,ho,hp,hr=>by
  obtain⟨rfl,rfl,-,-⟩:=hr
  exact⟨J,N,h,Tr.refl,trivial,Held.refl⟩
 | p::ps,qs,u::us,id,L,J,N,s,s',r,wr,h,hid,ho,hp,hr=>by
  obtain⟨L1,L2,rfl,h1,h2⟩:=ho
  obtain⟨a1,s1,r1,w1,r2,w2,k1,k2⟩:=bind_run hr
  obtain⟨a2,s2,r3,w3,r4,w4,k3,k4⟩:=bind_run k2
  obtain⟨e,e2,-,-⟩:=k4
  subst e e2
  obtain⟨J1,N1,m1,m2,m3,m4⟩:=open1_spec h hid h1 hp.left k1
  obtain⟨J2,N2,m5,m6,m7,m8⟩:=open1L_spec m1 (by omega) h2 (hp.right m4) k3
  exact⟨J2,N2,m5,m2.trans m6,⟨m6.v1 m3,m7⟩,m4.app m8⟩
 | [],_,_::_,_,_,_,_,_,_,_,_,_,_,h,_,_=>h.elim
 | _::_,_,[],_,_,_,_,_,_,_,_,_,_,h,_,_=>h.elim
theorem openR_spec {tm:Array Value} (h:StS X S ⟨t,s⟩ w tm J N) {id:Nat} (hid:99<=id) (ho:OwnV S w J0 σ0 p u L) (hp:Pend X S s N L) (hr:(openR id p).Run PC s q s' r wr) :
  ∃J' N',StS X S ⟨t,s'⟩ w tm J' N'/\Tr S S w w J J' s s'/\ValC S w J' s' q u/\Held s N s' N' L:=by
 by_cases ha:∃cs,p= .tup cs
 ·obtain⟨cs,rfl⟩:=ha
  obtain⟨us,rfl,ho⟩:=ho
  obtain⟨a1,s1,r1,w1,r2,w2,k1,k2⟩:=bind_run hr
  obtain⟨e,e2,-,-⟩:=k2
  subst e e2
  obtain⟨J1,N1,m1,m2,m3,m4⟩:=open1L_spec h hid ho hp k1
  exact⟨J1,N1,m1,m2,⟨us,rfl,m3⟩,m4⟩
 ·have ho':Own1 S w J0 σ0 p u L:=by cases p<;>first|exact ho|exact absurd ⟨_,rfl⟩ ha
  have hr':(open1 id p).Run PC s q s' r wr:=by cases p<;>first|exact hr|exact absurd ⟨_,rfl⟩ ha
  obtain⟨J1,N1,m1,m2,m3,m4⟩:=open1_spec h hid ho' hp hr'
  have hq:=open1_noTup hr'
  exact⟨J1,N1,m1,m2,by cases q<;>first|exact m3|exact absurd rfl (hq _),m4⟩
end
open Go.RowKit
section
variable {P:Program} {PC:Con} {X:Ctx} {nt:Nat} {Q:Exit->Act->World->Prop} {Z:Env} {a:Act} {w:World} {o:Oper} {v:PV} {t:Nat->PV} {s s':Sto} {r wr:List Nat}
theorem Cont.flat {S S':Nat->Prop} {k:K} (hk:flat k=true) {l:List (ty k)} {f:Nat->Option Value} (h:Cont S w l f):Cont S' w l f:=fun i x hx j lf hlf=>by
 obtain⟨u,hu,hv⟩:=h i x hx j lf hlf
 obtain⟨q,rfl⟩:=flat_sc hk x lf (qM1 hlf)
 exact⟨u,hu,hv⟩
theorem Own.flat {S S':Nat->Prop} {k:K} (hk:flat k=true) {u:Value} {l:List (ty k)} {L:List Nat} (h:Own S w k u l L):Own S' w k u l L:=by
 rcases h with h|⟨g,cap,cur,h1,h2,h3,h4,h5,h6,h7,h8⟩
 ·exact .inl h
 ·exact .inr ⟨g,cap,cur,h1,h2,h3,h4,h5,h6,h7,h8.flat hk⟩
def isFz:PV->Bool| .row false _ _=>true| .row true k _=> !flat k| .eptr ..=>true|_=>false
theorem noFzS (hp:isFz p=false) (hcap:∀f cs,p= .fn f cs->cs=[]) (h:OwnS S w J σ p u L):OwnS S' w J σ p u L:=by
 cases p with
 | row own k l=>cases own with
  | true=>exact Own.flat (by simpa [isFz]using hp) h
  | false=>cases hp
 | eptr=>cases hp
 | fn f caps=>
  obtain rfl:=hcap f caps rfl
  obtain⟨e,us,h1,h2⟩:=h
  refine⟨e,us,h1,?_⟩
  cases hu:us.toList with
  | nil=>trivial
  | cons x xs=>rw[hu]at h2;exact h2.elim
 | _=>exact h
theorem All3.imp {R R':PV->Value->List Nat->Prop} {B:PV->Bool} (h:∀p u L,B p=false->R p u L->R' p u L):∀{ps:List PV} {us:List Value} {L:List Nat},ps.any B=false->All3 R ps us L->All3 R' ps us L
 | [],[],_,_,h=>h
 | p::ps,u::us,L,hb,⟨L1,L2,e,h1,h2⟩=>by
  simp only[List.any_cons,Bool.or_eq_false_iff]at hb
  exact⟨L1,L2,e,h _ _ _ hb.1 h1,All3.imp h hb.2 h2⟩
 | [],_::_,_,_,h=>h.elim
 | _::_,[],_,_,h=>h.elim
theorem fzS_spec (hp:fzS p=false) (h:OwnS S w J σ p u L):OwnS S' w J σ p u L:=by
 refine noFzS ?_ ?_ h
 ·cases p<;>first|rfl|skip
  ·rename_i own k l;cases own<;>first|exact hp|rfl
  ·exact hp
 ·rintro f cs rfl
  cases cs<;>first|rfl|cases hp
theorem fz1_spec (hp:fz1 p=false) (h:Own1 S w J σ p u L):Own1 S' w J σ p u L:=by
 by_cases ha:∃cs,p= .agg cs
 ·obtain⟨cs,rfl⟩:=ha
  obtain⟨us,e,h⟩:=h
  exact⟨us,e,All3.imp (B:=fzS) (fun p u L hb h=>fzS_spec hb h) hp h⟩
 ·have h':OwnS S w J σ p u L:=by cases p<;>first|exact h|exact absurd ⟨_,rfl⟩ ha
  have hp':fzS p=false:=by cases p<;>first|exact hp|exact absurd ⟨_,rfl⟩ ha
  have:=fzS_spec (S':=S') hp' h'
  cases p<;>first|exact this|exact absurd ⟨_,rfl⟩ ha
theorem fzR_spec (hp:fzR p=false) (h:OwnV S w J σ p u L):OwnV S' w J σ p u L:=by
 by_cases ha:∃cs,p= .tup cs
 ·obtain⟨cs,rfl⟩:=ha
  obtain⟨us,e,h⟩:=h
  exact⟨us,e,All3.imp (B:=fz1) (fun p u L hb h=>fz1_spec hb h) hp h⟩
 ·have h':Own1 S w J σ p u L:=by cases p<;>first|exact h|exact absurd ⟨_,rfl⟩ ha
  have hp':fz1 p=false:=by cases p<;>first|exact hp|exact absurd ⟨_,rfl⟩ ha
  have:=fz1_spec (S':=S') hp' h'
  cases p<;>first|exact this|exact absurd ⟨_,rfl⟩ ha
end
open Go.RowKit
section
variable {P:Program} {PC:Con} {X:Ctx} {nt:Nat} {Q:Exit->Act->World->Prop} {Z:Env} {a:Act} {w:World} {o:Oper} {v:PV} {t:Nat->PV} {s s':Sto} {r wr:List Nat}
theorem All2.map_args {S:Nat->Prop} {J:Nat->Option (Nat×Nat)} {σ:Sto} {f:Operand->PV} {g:Operand->Value}:∀{xs:List Operand},(∀x∈xs,ValC S w J σ (f x) (g x))->All2 (ValC S w J σ) (xs.map f) (xs.map g)
 | [],_=>trivial
 | x::xs,h=>⟨h x (by simp),All2.map_args fun y hy=>h y (by simp[hy])⟩
theorem StS.close {tm:Array Value} (h:StS X S Z w tm J N):St X Z w tm J N/\Tr S (Fz X w N Z.s) w w J J Z.s Z.s:=h.wide h.fz fun _ h=>h
end
open Go.RowKit
abbrev Em:=List (Nat×Nat×Nat×Nat)
def exI:Em->Nat->Nat->Nat->Option Nat
 | [],_,_,_=>none
 | (id',_,j',_)::l,k,id,j=>match Nat.beq id' id&&Nat.beq j' j with
  | true=>some k
  | false=>exI l (k+1) id j
def hasE (id:Nat):Em->Bool
 | []=>false
 | (id',_)::l=>Nat.beq id' id||hasE id l
def isFn:PV->Bool
 | .fn _ (_::_)=>true
 | _=>false
def scanA (pn:TypeId->Option Nat):List PV->List TypeId->Em->Eff Em
 | .ptr id ver _ j::l,t::ts,em=>(match hasE id em,pn t with
  | false,some n=>scanA pn l ts (em++ [(id,ver,j,n)])
  | _,_=>scanA pn l ts em)
 | _::l,_::ts,em=>scanA pn l ts em
 | _,_,em=> .ret em
def scanE:Nat->List PV->Em->Eff Em
 | 0,_,_=> .fail
 | _,[],em=> .ret em
 | n+1,.ptr id ver _ _::l,em=>(match hasE id em with
  | true=>scanE n l em
  | false=>live id ver fun
   | .box cs=>scanE n (cs.filter isFn++l) (em++ [(id,ver,0,cs.length)])
   | .rowb _ _=> .fail
   | .objb _=> .fail
   | .iterb _ _ _ _ _=> .fail
   | .rowd _ _=> .fail
   | .rowx _ _ _ _=> .fail)
 | n+1,.fn _ caps::l,em=>scanE n (caps++l) em
 | n+1,_::l,em=>scanE n l em
def argS (em:Em) (mv:Bool):PV->Eff (PV×List Nat×List Nat)
 | .v x=> .ret (.v x,[],[])
 | .nil=> .ret (.nil,[],[])
 | .row false k l=> .ret (.row false k l,[],[])
 | .eptr k l i j=> .ret (.eptr k l i j,[],[])
 | .dead=> .ret (.dead,[],[])
 | .ref id ver off n full=>live id ver fun
  | .rowb k l=>(match mv,full with
   | true,true=> .ret (.row true k l,[id],[])
   | true,false=> .fail
   | false,full=> .ret (.row false k (viewL full l off n),[],[id]))
  | .rowd k l=>(match mv,full with
   | true,true=> .ret (.drow k l,[id],[])
   | true,false=> .fail
   | false,full=> .ret (.row false k (viewL full l off n),[],[id]))
  | .box _=> .fail
  | .objb _=> .fail
  | .iterb _ _ _ _ _=> .fail
  | .rowx _ _ _ _=> .fail
 | .ptr id ver i j=>(match exI em 0 id j,i with
  | some e,0=>live id ver fun
   | .box _=> .ret (.ptr e 0 0 0,[],[])
   | .rowb _ _=> .fail
   | .objb _=> .fail
   | .iterb _ _ _ _ _=> .fail
   | .rowd _ _=> .fail
   | .rowx _ _ _ _=> .fail
  | _,_=> .fail)
 | _=> .fail
def capL (em:Em):List PV->Eff (List PV)
 | []=> .ret []
 | p::ps=>(argS em false p).bind fun a=>match a.2.2 with
  | []=>(capL em ps).bind fun b=> .ret (a.1::b)
  | _::_=> .fail
def argF (em:Em) (mv:Bool):PV->Eff (PV×List Nat×List Nat)
 | .fn f caps=>(capL em caps).bind fun cs=> .ret (.fn f cs,[],[])
 | p=>argS em mv p
def argL (em:Em) (mv:Bool):List PV->Eff (List PV×List Nat×List Nat)
 | []=> .ret ([],[],[])
 | p::ps=>(argF em mv p).bind fun a=>(argL em mv ps).bind fun b=> .ret (a.1::b.1,a.2.1++b.2.1,a.2.2++b.2.2)
def arg1 (em:Em) (mv:Bool):PV->Eff (PV×List Nat×List Nat)
 | .agg cs=>(argL em mv cs).bind fun a=> .ret (.agg a.1,a.2)
 | p=>argF em mv p
def argA (em:Em):List Bool->List PV->Eff (List PV×List Nat×List Nat)
 | _,[]=> .ret ([],[],[])
 | mv,p::ps=>(arg1 em (mv.headD false) p).bind fun a=>(argA em mv.tail ps).bind fun b=> .ret (a.1::b.1,a.2.1++b.2.1,a.2.2++b.2.2)
def extL (em:Em):Em->Eff (List (List PV)×List (List Nat))
 | []=> .ret ([],[])
 | (id,ver,j,n)::l=>live id ver fun
  | .box cs=>if j+n<=cs.length then(argL em true ((cs.drop j).take n)).bind fun a=>(match a.2.2 with
    | []=>(extL em l).bind fun b=> .ret (a.1::b.1,a.2.1::b.2)
    | _::_=> .fail)else .fail
  | .rowb _ _=> .fail
  | .objb _=> .fail
  | .iterb _ _ _ _ _=> .fail
  | .rowd _ _=> .fail
  | .rowx _ _ _ _=> .fail
def dropS:List Nat->Sto->Sto
 | [],s=>s
 | id::l,s=>dropS l (upd s id ⟨(s id).ver,none⟩)
def dropL {α:Type}:List Nat->Eff α->Eff α
 | [],k=>k
 | id::l,k=> .rd id fun e=> .wr id ⟨e.ver,none⟩ (dropL l k)
def killL {α:Type}:Em->Eff α->Eff α
 | [],k=>k
 | (id,ver,j,n)::l,k=>live id ver fun
  | .box cs=> .wr id ⟨ver,some (.box (splice cs j (List.replicate n .dead)))⟩ (killL l k)
  | .rowb _ _=> .fail
  | .objb _=> .fail
  | .iterb _ _ _ _ _=> .fail
  | .rowd _ _=> .fail
  | .rowx _ _ _ _=> .fail
def capB (em:Em):PV->Option PV
 | .ptr e 0 0 0=>match em[e]? with
  | some (id,ver,j,_)=>some (.ptr id ver 0 j)
  | none=>none
 | _=>none
def capBs (em:Em):List PV->Option (List PV)
 | []=>some []
 | p::ps=>match capB em p,capBs em ps with
  | some q,some qs=>some (q::qs)
  | _,_=>none
def openC (em:Em) (id:Nat):PV->Eff PV
 | .fn f (c::cs)=>(match capBs em (c::cs)with
  | some qs=> .ret (.fn f qs)
  | none=> .fail)
 | p=>openS id p
def openB (em:Em) (id:Nat):List PV->Eff (List PV)
 | []=> .ret []
 | p::ps=>(openC em id p).bind fun q=>(openB em (id+1) ps).bind fun qs=> .ret (q::qs)
def backL (em0:Em) (base:Nat):Em->List (List PV)->Eff PV->Eff PV
 | [],[],k=>k
 | (id,ver,j,n)::em,y::ys,k=>(openB em0 base y).bind fun cs'=>live id ver fun
  | .box cs=>if j+cs'.length<=cs.length then .wr id ⟨ver,some (.box (splice cs j cs'))⟩ (backL em0 (base+1000) em ys k)else .fail
  | .rowb _ _=> .fail
  | .objb _=> .fail
  | .iterb _ _ _ _ _=> .fail
  | .rowd _ _=> .fail
  | .rowx _ _ _ _=> .fail
 | _,_,_=> .fail
def callFz (r:PV) (ys:List (List PV)):Bool:=fzR r||ys.any fun y=>y.any fzS
def backR:List Nat->List PV->Eff PV->Eff PV
 | [],[],k=>k
 | id::ids,.row true _ l::bs,k=> .rd id fun e=>match e with
  | ⟨ver,some (.rowb k0 _)⟩=>(match castL k0 l with
   | some l=> .wr id ⟨ver,some (.rowb k0 l)⟩ (backR ids bs k)
   | none=> .fail)
  | _=> .fail
 | id::ids,.drow _ l::bs,k=> .rd id fun e=>match e with
  | ⟨ver,some (.rowd k0 _)⟩=>(match castL k0 l with
   | some l=> .wr id ⟨ver,some (.rowd k0 l)⟩ (backR ids bs k)
   | none=> .fail)
  | _=> .fail
 | _,_,_=> .fail
def isGb:PV->Bool
 | .gb _ _=>true
 | _=>false
def gbR:PV->PV
 | .gb r _=>r
 | r=>r
def gbB:PV->List PV
 | .gb _ b=>b
 | _=> []
def eCallX (pn:TypeId->Option Nat) (mvs:FuncId->List Bool) (ln:FuncId->Bool) (o:Oper) (f:FuncId) (args:List PV) (ats:List TypeId):Eff PV:=
 (scanA pn args ats []).bind fun em0=>(scanE 64 args em0).bind fun em=>
 (argA em (match ln f with
  | true=>List.replicate 64 true
  | false=>mvs f) args).bind fun a=>(extL em em).bind fun xs=>
 match nodupB (em.map (·.1)++(a.2.1++xs.2.flatten))&&disjL a.2.2 (a.2.1++xs.2.flatten)with
 | false=> .fail
 | true=> .call f a.1 xs.1 fun r ys=>
  let D:=(match ln f with
   | true=> []
   | false=>a.2.1)++xs.2.flatten++(match callFz (gbR r) ys||(gbB r).any fzS with
   | true=>a.2.2
   | false=> [])
  match D.all (Nat.ble 99),isGb r,ln f with
  | true,true,true=>dropL D<|killL em<|backR a.2.1 (gbB r) <|
   (openR (resId o) (gbR r)).bind fun v=>backL em (resId o+500000) em ys (.ret v)
  | true,false,false=>dropL D<|killL em <|
   (openR (resId o) r).bind fun v=>backL em (resId o+500000) em ys (.ret v)
  | _,_,_=> .fail
section
variable {P:Program} {PC:Con} {X:Ctx} {nt:Nat} {Q:Exit->Act->World->Prop} {Z:Env} {a:Act} {w:World} {o:Oper} {v:PV} {s':Sto} {r wr:List Nat}
theorem scanA_run {pn:TypeId->Option Nat}:∀{l:List PV} {ts:List TypeId} {em em':Em} {s s':Sto} {r wr:List Nat},(scanA pn l ts em).Run PC s em' s' r wr->s'=s:=by
 intro l
 induction l with
 | nil=>intro ts em em' s s' r wr h;cases ts<;>exact h.2.1
 | cons p l ih=>
  intro ts em em' s s' r wr h
  cases ts with
  | nil=>cases p<;>exact h.2.1
  | cons t ts=>
   cases p<;>try exact ih h
   unfold scanA at h
   split at h
   ·exact ih h
   ·exact ih h
theorem scanE_run:∀{n:Nat} {l:List PV} {em em':Em} {s s':Sto} {r wr:List Nat},(scanE n l em).Run PC s em' s' r wr->s'=s:=by
 intro n
 induction n with
 | zero=>intro l em em' s s' r wr h;cases l<;>exact h.elim
 | succ n ih=>
  intro l em em' s s' r wr h
  cases l with
  | nil=>exact h.2.1
  | cons p l=>
   cases p<;>try exact ih h
   unfold scanE at h
   split at h
   ·exact ih h
   ·obtain⟨b,r',_,rfl,h⟩:=live_run h
    cases b<;>first|exact h.elim|exact ih h
theorem exI_spec:∀{em:Em} {k id j e:Nat},exI em k id j=some e->∃i ver n,e=k+i/\em[i]?=some (id,ver,j,n)
 | (id',ver',j',n')::l,k,id,j,e,h=>by
  unfold exI at h
  split at h
  ·rename_i hb
   rw[Bool.and_eq_true]at hb
   cases h
   rw[<-Nat.eq_of_beq_eq_true hb.1,<-Nat.eq_of_beq_eq_true hb.2]
   exact⟨0,ver',n',rfl,rfl⟩
  ·obtain⟨i,ver,n,h1,h2⟩:=exI_spec h
   exact⟨i+1,ver,n,by omega,by simpa using h2⟩
 | [],_,_,_,_,h=>by cases h
def locF (J:Nat->Option (Nat×Nat)):Nat×Nat×Nat×Nat->Nat×Nat:=fun x=>match J x.1 with
 | some (b,off)=>(b,off+x.2.2.1)
 | none=>(0,0)
def HE (em:Em) (J:Nat->Option (Nat×Nat)) (σ:Sto) (J':Nat->Option (Nat×Nat)) (σ':Sto):Prop:=
 ∀id j e ver cs u,exI em 0 id j=some e->σ id=⟨ver,some (.box cs)⟩->PtrC J σ id ver 0 j u->PtrC J' σ' e 0 0 0 u
theorem HE.of {em:Em} {xs:List (List PV)}:HE em J σ (extB (em.map (locF J))) (extS xs):=by
 intro id j e ver cs u he hs hp
 obtain⟨i,ver',n,h1,h2⟩:=exI_spec he
 rw[Nat.zero_add]at h1
 subst h1
 obtain⟨h3,h4,h5⟩:=hp
 obtain⟨b,off,h6,h7⟩:=h5 _ hs
 refine⟨Nat.zero_le _,h4,fun blk hb=> ?_⟩
 unfold extS at hb
 split at hb
 ·cases hb
  refine⟨b,off+j,?_,by rw[Nat.add_zero];exact h7⟩
  simp[extB,h2,locF,h6]
 ·cases hb
structure AH (X:Ctx) (Z:Env) (w:World) (J:Nat->Option (Nat×Nat)) (N:Nat->List Nat) (S':Nat->Prop) (pk:List Nat):Prop where
 f:∀b,Fz X w N Z.s b->S' b
 p:∀id∈pk,∀b∈N id,S' b
def LiveR (s:Sto) (ids:List Nat):Prop:=∀id∈ids,∃ver blk k l,s id=⟨ver,some blk⟩/\IsRw blk k l
variable {J:Nat->Option (Nat×Nat)} {N:Nat->List Nat} {tm:Array Value} {S':Nat->Prop} {J':Nat->Option (Nat×Nat)} {σ':Sto} {em:Em}
theorem full_own {l:List (ty k)} {id:Nat} (hst:St X Z w tm J N) (hs:Z.s id=⟨ver,some (.rowb k l)⟩) (hv:RefC w J Z.s id ver off n true u) (hF:∀b,Fz X w N Z.s b->S' b):Own S' w k u l (N id):=by
 have hc:closeS Z.s (.ref id ver off n true)=some (.row true k l,[id],[]):=by
  unfold closeS;simp only[hs];simp
 have h2:OwnS S' w J Z.s (.row true k l) u ([id].map N).flatten:=(closeS_spec (S':=S') (J':=J) (σ':=Z.s) hst hF (p:= .ref id ver off n true) hv hc (by simp)).2
 have h3:Own S' w k u l ([id].map N).flatten:=h2
 simpa using h3
theorem full_ownD {l:List (ty k)} {id:Nat} (hst:St X Z w tm J N) (hs:Z.s id=⟨ver,some (.rowd k l)⟩) (hv:RefC w J Z.s id ver off n true u):DOwn w k u l (N id):=by
 have hc:closeS Z.s (.ref id ver off n true)=some (.drow k l,[id],[]):=by
  unfold closeS;simp only[hs];simp
 have h2:OwnS (Fz X w N Z.s) w J Z.s (.drow k l) u ([id].map N).flatten:=(closeS_spec (S':=Fz X w N Z.s) (J':=J) (σ':=Z.s) hst (fun _ h=>h) (p:= .ref id ver off n true) hv hc (by simp)).2
 have h3:DOwn w k u l ([id].map N).flatten:=h2
 simpa using h3
def MV (w:World) (J:Nat->Option (Nat×Nat)) (s:Sto) (m:List Nat) (us:List Value):Prop:=All2 (fun id u=>∃ver blk k l off n,s id=⟨ver,some blk⟩/\IsRw blk k l/\RefC w J s id ver off n true u) m us
theorem All2.app {α J:Type} {R:α->J->Prop}:∀{as:List α} {bs:List J} {cs:List α} {ds:List J},All2 R as bs->All2 R cs ds->All2 R (as++cs) (bs++ds)
 | [],[],_,_,_,h=>h
 | _::_,_::_,_,_,⟨h1,h2⟩,h=>⟨h1,All2.app h2 h⟩
theorem argS_spec (hst:St X Z w tm J N) (hE:HE em J Z.s J' σ') (hv:ValS (Fz X w N Z.s) w J Z.s p u) (hr:(argS em mv p).Run PC Z.s (q,m,pk) s' r wr) (hA:AH X Z w J N S' pk) :
  s'=Z.s/\OwnS S' w J' σ' q u (m.flatMap N)/\LiveR Z.s m/\LiveR Z.s pk/\(m=[]->ValS S' w J' σ' q u)/\(∀f cs,q≠ .fn f cs)/\(∀cs,q≠ .agg cs)/\(mv=false->m=[])/\(m=[]->Val0 S' w J' σ' q u)/\MV w J Z.s m (own1V q u):=by
 have nl:LiveR Z.s []:=fun _ h=>by cases h
 unfold argS at hr
 split at hr
 ·obtain⟨e,rfl,-,-⟩:=hr;cases e;exact⟨rfl,⟨rfl,hv⟩,nl,nl,fun _=>hv,(fun _ _ e=>nomatch e),(fun _ e=>nomatch e),fun _=>rfl,fun _=>hv,trivial⟩
 ·obtain⟨e,rfl,-,-⟩:=hr;cases e;exact⟨rfl,⟨rfl,hv⟩,nl,nl,fun _=>hv,(fun _ _ e=>nomatch e),(fun _ e=>nomatch e),fun _=>rfl,fun _=>hv,trivial⟩
 ·obtain⟨e,rfl,-,-⟩:=hr;cases e
  rename_i k l
  have:ValS S' w J' σ' (.row false k l) u:=⟨rfl,hv.2.mono hA.f fun _ _ _ _ h=>h⟩
  exact⟨rfl,⟨rfl,this⟩,nl,nl,fun _=>this,(fun _ _ e=>nomatch e),(fun _ e=>nomatch e),fun _=>rfl,fun _=>this,trivial⟩
 ·obtain⟨e,rfl,-,-⟩:=hr;cases e
  obtain⟨b,off,h1,h2,h3⟩:=hv
  have:ValS S' w J' σ' (.eptr _ _ _ _) u:=⟨b,off,h1,h2,h3.mono hA.f fun _ _ _ _ h=>h⟩
  exact⟨rfl,⟨rfl,this⟩,nl,nl,fun _=>this,(fun _ _ e=>nomatch e),(fun _ e=>nomatch e),fun _=>rfl,fun _=>this,trivial⟩
 ·obtain⟨e,rfl,-,-⟩:=hr;cases e;exact⟨rfl,⟨rfl,trivial⟩,nl,nl,fun _=>trivial,(fun _ _ e=>nomatch e),(fun _ e=>nomatch e),fun _=>rfl,fun _=>trivial,trivial⟩
 ·rename_i id ver off n full
  have hv0:RefC w J Z.s id ver off n full u:=hv
  obtain⟨blk,r',hb,rfl,hr⟩:=live_run hr
  have peek:∀(k:K) (l:List (ty k)),IsRw blk k l->AH X Z w J N S' [id]->(Z.s=Z.s/\OwnS S' w J' σ' (.row false k (viewL full l off n)) u (([]:List Nat).flatMap N)/\LiveR Z.s []/\LiveR Z.s [id]/\(([]:List Nat)=[]->ValS S' w J' σ' (.row false k (viewL full l off n)) u)/\(∀f cs,PV.row false k (viewL full l off n)≠ .fn f cs)/\(∀cs,PV.row false k (viewL full l off n)≠ .agg cs)/\(mv=false->([]:List Nat)=[])/\(([]:List Nat)=[]->Val0 S' w J' σ' (.row false k (viewL full l off n)) u)/\MV w J Z.s [] (own1V (.row false k (viewL full l off n)) u)):=fun k l hw hA=>by
   have lv:LiveR Z.s [id]:=fun i hi=>by rw[List.mem_singleton.1 hi];exact⟨ver,blk,k,l,hb,hw⟩
   have:ValS S' w J' σ' (.row false k (viewL full l off n)) u:=⟨rfl,by rw[view_eq hst hb hw.row hv0];exact RefC.view hst hv0 hb hw hA.f fun b hbN=>hA.p id (by simp) b hbN⟩
   exact⟨rfl,⟨rfl,this⟩,nl,lv,fun _=>this,(fun _ _ e=>nomatch e),(fun _ e=>nomatch e),fun _=>rfl,fun _=>this,trivial⟩
  cases blk with
  | box cs=>exact hr.elim
  | objb o=>exact hr.elim
  | iterb=>exact hr.elim
  | rowx=>exact hr.elim
  | rowb k l=>
   simp only at hr
   split at hr
   ·obtain⟨e,rfl,-,-⟩:=hr
    cases e
    have lv:LiveR Z.s [id]:=fun i hi=>by rw[List.mem_singleton.1 hi];exact⟨ver,_,k,l,hb,.b⟩
    refine⟨rfl,?_,lv,nl,(fun e=>nomatch e),(fun _ _ e=>nomatch e),(fun _ e=>nomatch e),(fun e=>nomatch e),(fun e=>nomatch e),⟨ver,_,k,l,off,n,hb,.b,hv0⟩,trivial⟩
    have:=full_own (S':=S') hst hb hv0 hA.f
    show Own S' w k u l _
    simpa using this
   ·exact hr.elim
   ·obtain⟨e,rfl,-,-⟩:=hr
    cases e
    exact peek k l .b hA
  | rowd k l=>
   simp only at hr
   split at hr
   ·obtain⟨e,rfl,-,-⟩:=hr
    cases e
    have lv:LiveR Z.s [id]:=fun i hi=>by rw[List.mem_singleton.1 hi];exact⟨ver,_,k,l,hb,.d⟩
    refine⟨rfl,?_,lv,nl,(fun e=>nomatch e),(fun _ _ e=>nomatch e),(fun _ e=>nomatch e),(fun e=>nomatch e),(fun e=>nomatch e),⟨ver,_,k,l,off,n,hb,.d,hv0⟩,trivial⟩
    have:=full_ownD hst hb hv0
    show DOwn w k u l _
    simpa using this
   ·exact hr.elim
   ·obtain⟨e,rfl,-,-⟩:=hr
    cases e
    exact peek k l .d hA
 ·rename_i id ver i j
  split at hr
  ·rename_i e he
   obtain⟨blk,r',hb,rfl,hr⟩:=live_run hr
   cases blk with
   | box cs=>
    obtain⟨e,rfl,-,-⟩:=hr
    cases e
    have:ValS S' w J' σ' (.ptr _ 0 0 0) u:=hE _ _ _ _ _ _ he hb hv
    exact⟨rfl,⟨rfl,this⟩,nl,nl,fun _=>this,(fun _ _ e=>nomatch e),(fun _ e=>nomatch e),fun _=>rfl,fun _=>this,trivial⟩
   | rowb k l=>exact hr.elim
   | objb o=>exact hr.elim
   | iterb=>exact hr.elim
   | rowd=>exact hr.elim
   | rowx=>exact hr.elim
  ·exact hr.elim
 ·exact hr.elim
theorem capL_spec (hst:St X Z w tm J N) (hE:HE em J Z.s J' σ') (hF:∀b,Fz X w N Z.s b->S' b):∀{ps qs:List PV} {us:List Value} {s':Sto} {r wr:List Nat},All2 (Val0 (Fz X w N Z.s) w J Z.s) ps us->(capL em ps).Run PC Z.s qs s' r wr->s'=Z.s/\All2 (Val0 S' w J' σ') qs us
 | [],qs,[],s',r,wr,_,hr=>by obtain⟨rfl,rfl,-,-⟩:=hr;exact⟨rfl,trivial⟩
 | p::ps,qs,u::us,s',r,wr,⟨h1,h2⟩,hr=>by
  obtain⟨⟨q,m,pk⟩,s1,r1,w1,r2,w2,k1,k2⟩:=bind_run hr
  simp only at k2
  cases pk with
  | cons _ _=>exact k2.elim
  | nil=>
   obtain⟨qs',s2,r3,w3,r4,w4,k3,k4⟩:=bind_run k2
   obtain⟨rfl,rfl,-,-⟩:=k4
   have hv:ValS (Fz X w N Z.s) w J Z.s p u:=by cases p<;>first|exact h1|exact h1.elim
   obtain⟨rfl,m1,m2,m3,m4,m5,m6,m7,m8,_⟩:=argS_spec (S':=S') (J':=J') (σ':=σ') hst hE hv k1 ⟨hF,fun _ h=>by cases h⟩
   obtain⟨rfl,n1⟩:=capL_spec hst hE hF h2 k3
   exact⟨rfl,m8 (m7 rfl),n1⟩
 | [],_,_::_,_,_,_,h,_=>h.elim
 | _::_,_,[],_,_,_,h,_=>h.elim
theorem argF_spec (hst:St X Z w tm J N) (hE:HE em J Z.s J' σ') (hv:ValS (Fz X w N Z.s) w J Z.s p u) (hr:(argF em mv p).Run PC Z.s (q,m,pk) s' r wr) (hA:AH X Z w J N S' pk) :
  s'=Z.s/\OwnS S' w J' σ' q u (m.flatMap N)/\LiveR Z.s m/\LiveR Z.s pk/\(∀cs,q≠ .agg cs)/\MV w J Z.s m (own1V q u):=by
 unfold argF at hr
 split at hr
 ·rename_i f caps
  obtain⟨cs,s1,r1,w1,r2,w2,k1,k2⟩:=bind_run hr
  obtain⟨e,rfl,-,-⟩:=k2
  cases e
  obtain⟨us,rfl,hall⟩:=hv
  obtain⟨rfl,m1⟩:=capL_spec (S':=S') (J':=J') (σ':=σ') hst hE hA.f hall k1
  exact⟨rfl,⟨rfl,us,rfl,m1⟩,(fun _ h=>by cases h),(fun _ h=>by cases h),(fun _ e=>nomatch e),trivial⟩
 ·obtain⟨h1,h2,h3,h4,h5,h6,h7,h8,_,h9⟩:=argS_spec (S':=S') (J':=J') (σ':=σ') hst hE hv hr hA
  exact⟨h1,h2,h3,h4,h7,h9⟩
theorem LiveR.app {l1 l2:List Nat} (h1:LiveR s l1) (h2:LiveR s l2):LiveR s (l1++l2):=fun id h=>(List.mem_append.1 h).elim (h1 id) (h2 id)
theorem AH.left {pk1 pk2:List Nat} (h:AH X Z w J N S' (pk1++pk2)):AH X Z w J N S' pk1:=⟨h.f,fun id hi=>h.p id (List.mem_append_left _ hi)⟩
theorem AH.right {pk1 pk2:List Nat} (h:AH X Z w J N S' (pk1++pk2)):AH X Z w J N S' pk2:=⟨h.f,fun id hi=>h.p id (List.mem_append_right _ hi)⟩
theorem argL_spec (hst:St X Z w tm J N) (hE:HE em J Z.s J' σ') {mv:Bool}:∀{ps qs:List PV} {us:List Value} {m pk:List Nat} {s':Sto} {r wr:List Nat},All2 (ValS (Fz X w N Z.s) w J Z.s) ps us->(argL em mv ps).Run PC Z.s (qs,m,pk) s' r wr->AH X Z w J N S' pk->
  s'=Z.s/\All3 (OwnS S' w J' σ') qs us (m.flatMap N)/\LiveR Z.s m/\LiveR Z.s pk/\MV w J Z.s m (ownCells qs us)
 | [],qs,[],m,pk,s',r,wr,_,hr,_=>by obtain⟨e,rfl,-,-⟩:=hr;cases e;exact⟨rfl,rfl,(fun _ h=>by cases h),(fun _ h=>by cases h),trivial⟩
 | p::ps,qs,u::us,m,pk,s',r,wr,⟨h1,h2⟩,hr,hA=>by
  obtain⟨⟨q,m1,p1⟩,s1,r1,w1,r2,w2,k1,k2⟩:=bind_run hr
  obtain⟨⟨qs',m2,p2⟩,s2,r3,w3,r4,w4,k3,k4⟩:=bind_run k2
  obtain⟨e,rfl,-,-⟩:=k4
  cases e
  obtain⟨rfl,a1,a2,a3,a4,a5⟩:=argF_spec (S':=S') (J':=J') (σ':=σ') hst hE h1 k1 hA.left
  obtain⟨rfl,b1,b2,b3,b4⟩:=argL_spec hst hE h2 k3 hA.right
  exact⟨rfl,⟨_,_,List.flatMap_append,a1,b1⟩,a2.app b2,a3.app b3,All2.app a5 b4⟩
 | [],_,_::_,_,_,_,_,_,h,_,_=>h.elim
 | _::_,_,[],_,_,_,_,_,h,_,_=>h.elim
theorem arg1_spec (hst:St X Z w tm J N) (hE:HE em J Z.s J' σ') (hv:ValC (Fz X w N Z.s) w J Z.s p u) (hr:(arg1 em mv p).Run PC Z.s (q,m,pk) s' r wr) (hA:AH X Z w J N S' pk) :
  s'=Z.s/\Own1 S' w J' σ' q u (m.flatMap N)/\LiveR Z.s m/\LiveR Z.s pk/\MV w J Z.s m (own1A q u):=by
 by_cases ha:∃cs,p= .agg cs
 ·obtain⟨cs,rfl⟩:=ha
  obtain⟨us,rfl,hv⟩:=hv
  obtain⟨⟨qs,m1,p1⟩,s1,r1,w1,r2,w2,k1,k2⟩:=bind_run hr
  obtain⟨e,rfl,-,-⟩:=k2
  cases e
  obtain⟨rfl,a1,a2,a3,a4⟩:=argL_spec (S':=S') (J':=J') (σ':=σ') hst hE hv k1 hA
  exact⟨rfl,⟨us,rfl,a1⟩,a2,a3,a4⟩
 ·have hr':(argF em mv p).Run PC Z.s (q,m,pk) s' r wr:=by
   cases p<;>first|exact hr|exact absurd ⟨_,rfl⟩ ha
  have hnt:∀vs,p≠ .tup vs:=by rintro vs rfl;exact hr'.elim
  obtain⟨rfl,a1,a2,a3,a4,a5⟩:=argF_spec (S':=S') (J':=J') (σ':=σ') hst hE (hv.vs (fun cs e=>ha ⟨cs,e⟩) hnt) hr' hA
  exact⟨rfl,by cases q<;>first|exact a1|exact absurd rfl (a4 _),a2,a3,by cases q<;>first|exact a5|exact absurd rfl (a4 _)⟩
theorem argA_spec (hst:St X Z w tm J N) (hE:HE em J Z.s J' σ'):∀{mv:List Bool} {ps qs:List PV} {us:List Value} {m pk:List Nat} {s':Sto} {r wr:List Nat},All2 (ValC (Fz X w N Z.s) w J Z.s) ps us->(argA em mv ps).Run PC Z.s (qs,m,pk) s' r wr->AH X Z w J N S' pk->
  s'=Z.s/\All3 (Own1 S' w J' σ') qs us (m.flatMap N)/\LiveR Z.s m/\LiveR Z.s pk/\MV w J Z.s m (ownVals qs us)
 | mv,[],qs,[],m,pk,s',r,wr,_,hr,_=>by
  have hr:(Eff.ret (([]:List PV),([]:List Nat),([]:List Nat))).Run PC Z.s (qs,m,pk) s' r wr:=by cases mv<;>exact hr
  obtain⟨e,rfl,-,-⟩:=hr;cases e;exact⟨rfl,rfl,(fun _ h=>by cases h),(fun _ h=>by cases h),trivial⟩
 | mv,p::ps,qs,u::us,m,pk,s',r,wr,⟨h1,h2⟩,hr,hA=>by
  obtain⟨⟨q,m1,p1⟩,s1,r1,w1,r2,w2,k1,k2⟩:=bind_run hr
  obtain⟨⟨qs',m2,p2⟩,s2,r3,w3,r4,w4,k3,k4⟩:=bind_run k2
  obtain⟨e,rfl,-,-⟩:=k4
  cases e
  obtain⟨rfl,a1,a2,a3,a4⟩:=arg1_spec (S':=S') (J':=J') (σ':=σ') hst hE h1 k1 hA.left
  obtain⟨rfl,b1,b2,b3,b4⟩:=argA_spec hst hE h2 k3 hA.right
  exact⟨rfl,⟨_,_,List.flatMap_append,a1,b1⟩,a2.app b2,a3.app b3,All2.app a4 b4⟩
 | _,[],_,_::_,_,_,_,_,_,h,_,_=>h.elim
 | _,_::_,_,[],_,_,_,_,_,h,_,_=>h.elim
def LiveX (s:Sto) (em:Em):Prop:=∀id ver j n,(id,ver,j,n)∈em->∃cs,s id=⟨ver,some (.box cs)⟩/\j+n<=cs.length
theorem extL_spec {em0:Em} (hst:St X Z w tm J N) (hE:HE em0 J Z.s J' σ') (hF:∀b,Fz X w N Z.s b->S' b):∀{em:Em} {xs:List (List PV)} {ms:List (List Nat)} {s':Sto} {r wr:List Nat},(extL em0 em).Run PC Z.s (xs,ms) s' r wr->
  s'=Z.s/\xs.length=em.length/\LiveR Z.s ms.flatten/\LiveX Z.s em/\(ms.map fun m=>m.flatMap N).length=em.length/\(∀(e:Nat) (x:Nat×Nat×Nat×Nat) (cs:List PV),em[e]?=some x->xs[e]?=some cs->cs.length=x.2.2.2)/\
  ∀(e:Nat) (p:Nat×Nat) (cs:List PV) (L:List Nat),(em.map (locF J))[e]?=some p->xs[e]?=some cs->(ms.map fun m=>m.flatMap N)[e]?=some L->BoxO S' w J' σ' p cs L
 | [],xs,ms,s',r,wr,hr=>by
  obtain⟨e,rfl,-,-⟩:=hr
  cases e
  exact⟨rfl,rfl,(fun _ h=>by cases h),(fun _ _ _ _ h=>by cases h),rfl,(fun e x cs h=>by simp at h),fun e p cs L h=>by simp at h⟩
 | (id,ver,j,n)::em,xs,ms,s',r,wr,hr=>by
  obtain⟨blk,r',hb,rfl,hr⟩:=live_run hr
  cases blk with
  | rowb k l=>exact hr.elim
  | objb o=>exact hr.elim
  | iterb=>exact hr.elim
  | rowd=>exact hr.elim
  | rowx=>exact hr.elim
  | box cs=>
   simp only at hr
   split at hr
   case isFalse=>exact hr.elim
   rename_i hjn
   obtain⟨⟨qs,m,pk⟩,s1,r1,w1,r2,w2,k1,k2⟩:=bind_run hr
   simp only at k2
   cases pk with
   | cons _ _=>exact k2.elim
   | nil=>
    obtain⟨⟨xs',ms'⟩,s2,r3,w3,r4,w4,k3,k4⟩:=bind_run k2
    obtain⟨e,rfl,-,-⟩:=k4
    cases e
    obtain⟨b,off,cur,E,q1,q2,q3,q4,q5⟩:=hst.blk id _ (by rw[hb])
    obtain⟨us,hul,hus,hall⟩:∃us:List Value,us.length=n/\(∀i u,us[i]?=some u->cur[off+j+i]?=some u/\u.oneCell'=true)/\All2 (ValS (Fz X w N Z.s) w J Z.s) ((cs.drop j).take n) us:=by
     have key:∀(l:List PV) (st:Nat),(∀i p,l[i]?=some p->cs[st+i]?=some p)->∃us:List Value,us.length=l.length/\(∀i u,us[i]?=some u->cur[off+st+i]?=some u/\u.oneCell'=true)/\All2 (ValS (Fz X w N Z.s) w J Z.s) l us:=by
      intro l
      induction l with
      | nil=>intro st _;exact⟨[],rfl,(fun i u h=>by simp at h),trivial⟩
      | cons p l ih=>
       intro st hl
       obtain⟨us,e1,e2,e3⟩:=ih (st+1) fun i p hp=>by rw[show st+1+i=st+(i+1) by omega];exact hl (i+1) p (by simpa using hp)
       obtain⟨u,hu,h1c,hv⟩:=q5 st p (by simpa using hl 0 p rfl)
       refine⟨u::us,by simp[e1],fun i u' hi=> ?_,hv,e3⟩
       cases i with
       | zero=>simp at hi;subst hi;exact⟨by simpa using hu,h1c⟩
       | succ i=>rw[show off+st+(i+1)=off+(st+1)+i by omega];exact e2 i u' (by simpa using hi)
     obtain⟨us,e1,e2,e3⟩:=key ((cs.drop j).take n) j fun i p hp=>by
      rw[List.getElem?_take]at hp
      split at hp
      ·rwa[List.getElem?_drop]at hp
      ·cases hp
     exact⟨us,by rw[e1,List.length_take,List.length_drop];omega,e2,e3⟩
    obtain⟨rfl,a1,a2,a3,_⟩:=argL_spec (S':=S') (J':=J') (σ':=σ') hst hE hall k1 ⟨hF,fun _ h=>by cases h⟩
    obtain⟨rfl,b1,b2,b3,b4,b5,b6⟩:=extL_spec hst hE hF k3
    have hql:qs.length=n:=by
     rw[a1.len,hul]
    refine⟨rfl,by simp[b1],by rw[List.flatten_cons];exact a2.app b2,fun id' ver' j' n' hm=> ?_,by simp at b4⊢;exact b4,fun e x c he hx=> ?_,fun e p c L he hx hL=> ?_⟩
    ·rcases List.mem_cons.1 hm with hm|hm
     ·cases hm;exact⟨cs,hb,hjn⟩
     ·exact b3 id' ver' j' n' hm
    ·cases e with
     | zero=>simp at he hx;subst he hx;exact hql
     | succ e=>exact b5 e x c (by simpa using he) (by simpa using hx)
    ·cases e with
     | zero=>
      simp at he hx hL
      subst he hx hL
      have e0:locF J (id,ver,j,n)=(b,off+j):=by simp[locF,q1]
      rw[e0]
      exact⟨cur,E,us,q3,by rw[hql];show off+j+n<=_;omega,fun i u hi=>hus i u hi,a1⟩
     | succ e=>exact b6 e p c L (by simpa using he) (by simpa using hx) (by simpa using hL)
end
open Go.RowKit
theorem dropS_same {l:List Nat}:∀{s:Sto} {id:Nat},id∉l->dropS l s id=s id:=by
 induction l with
 | nil=>intro s id _;rfl
 | cons i l ih=>
  intro s id h
  simp only[List.mem_cons,not_or]at h
  show dropS l (upd s i _) id=s id
  rw[ih h.2,upd_ne _ _ h.1]
theorem dropS_mem {l:List Nat}:∀{s:Sto} {id:Nat},id∈l->dropS l s id=⟨(s id).ver,none⟩:=by
 induction l with
 | nil=>intro s id h;cases h
 | cons i l ih=>
  intro s id h
  show dropS l (upd s i _) id=_
  by_cases hi:id∈l
  ·rw[ih hi]
   by_cases e:id=i
   ·subst e;rw[upd_same]
   ·rw[upd_ne _ _ e]
  ·have e:id=i:=by simpa [hi]using h
   subst e
   rw[dropS_same hi,upd_same]
theorem dropL_run {PC:Con} {α:Type} {k:Eff α}:∀{l:List Nat} {s s':Sto} {a:α} {r wr:List Nat},(dropL l k).Run PC s a s' r wr->∃r' wr',k.Run PC (dropS l s) a s' r' wr'
 | [],s,s',a,r,wr,h=>⟨r,wr,h⟩
 | id::l,s,s',a,r,wr,h=>by
  obtain⟨r',_,w',_,h⟩:=h
  exact dropL_run (l:=l) h
def kill1 (s:Sto) (id ver j n:Nat):Sto:=match s id with
 | ⟨_,some (.box cs)⟩=>upd s id ⟨ver,some (.box (splice cs j (List.replicate n .dead)))⟩
 | _=>s
theorem kill1_ne {id:Nat} (h:i≠id):kill1 s id ver j n i=s i:=by
 unfold kill1
 cases s id with
 | mk v b=>cases b with
  | none=>rfl
  | some b=>cases b with
   | box cs=>exact upd_ne _ _ h
   | _=>rfl
theorem kill1_box {id v:Nat} {cs:List PV} (h:s id=⟨v,some (.box cs)⟩):kill1 s id ver j n=upd s id ⟨ver,some (.box (splice cs j (List.replicate n .dead)))⟩:=by
 unfold kill1;rw[h]
def killS:Em->Sto->Sto
 | [],s=>s
 | (id,ver,j,n)::l,s=>killS l (kill1 s id ver j n)
theorem killL_run {PC:Con} {α:Type} {k:Eff α}:∀{l:Em} {s s':Sto} {a:α} {r wr:List Nat},(killL l k).Run PC s a s' r wr->∃r' wr',k.Run PC (killS l s) a s' r' wr'
 | [],s,s',a,r,wr,h=>⟨r,wr,h⟩
 | (id,ver,j,n)::l,s,s',a,r,wr,h=>by
  obtain⟨blk,r',hb,rfl,h⟩:=live_run h
  cases blk with
  | box cs=>
   obtain⟨w',_,h⟩:=h
   have:=killL_run h
   unfold killS
   rw[kill1_box hb]
   exact this
  | rowb k l=>exact h.elim
  | objb o=>exact h.elim
  | iterb=>exact h.elim
  | rowd=>exact h.elim
  | rowx=>exact h.elim
theorem killS_same {l:Em}:∀{s:Sto} {id:Nat},id∉l.map (·.1)->killS l s id=s id:=by
 induction l with
 | nil=>intro s id _;rfl
 | cons x l ih=>
  obtain⟨i,ver,j,n⟩:=x
  intro s id h
  simp only[List.map_cons,List.mem_cons,not_or]at h
  unfold killS
  rw[ih h.2,kill1_ne h.1]
theorem killS_mem {l:Em}:∀{s:Sto} {id ver j n:Nat} {cs:List PV},(l.map (·.1)).Nodup->(id,ver,j,n)∈l->s id=⟨ver,some (.box cs)⟩->killS l s id=⟨ver,some (.box (splice cs j (List.replicate n .dead)))⟩:=by
 induction l with
 | nil=>intro s id ver j n cs _ h;cases h
 | cons x l ih=>
  obtain⟨i,ver',j',n'⟩:=x
  intro s id ver j n cs hnd h hs
  rw[List.map_cons,List.nodup_cons]at hnd
  unfold killS
  rcases List.mem_cons.1 h with e|h
  ·cases e
   rw[killS_same hnd.1,kill1_box hs]
   exact upd_same _ _ _
  ·have hne:id≠i:=fun e=>hnd.1 (by rw[<-e];exact List.mem_map.2 ⟨_,h,rfl⟩)
   exact ih hnd.2 h (by rw[kill1_ne hne];exact hs)
theorem splice_len {cs new:List α} (h:j+new.length<=cs.length):(splice cs j new).length=cs.length:=by
 unfold splice;simp;omega
theorem splice_get {cs new:List α} (h:j+new.length<=cs.length) (i:Nat):(splice cs j new)[i]?=if i<j then cs[i]? else if i<j+new.length then new[i-j]? else cs[i]?:=by
 unfold splice
 by_cases h1:i<j
 ·rw[if_pos h1,List.append_assoc,List.getElem?_append_left (by simp;omega),List.getElem?_take,if_pos h1]
 ·rw[if_neg h1]
  by_cases h2:i<j+new.length
  ·rw[if_pos h2,List.append_assoc,List.getElem?_append_right (by simp;omega),List.getElem?_append_left (by simp;omega)]
   congr 1;simp;omega
  ·rw[if_neg h2,List.getElem?_append_right (by simp;omega),List.getElem?_drop]
   congr 1;simp;omega
section
variable {P:Program} {PC:Con} {X:Ctx} {nt:Nat} {Q:Exit->Act->World->Prop} {Z:Env} {a:Act} {w:World} {o:Oper} {v:PV} {s':Sto} {r wr:List Nat}
variable {J:Nat->Option (Nat×Nat)} {N:Nat->List Nat} {tm:Array Value}
theorem flatMap_nodup (hst:St X Z w tm J N):∀{ids:List Nat},ids.Nodup->(∀id∈ids,∃b,(Z.s id).blk=some b)->(ids.flatMap N).Nodup
 | [],_,_=>List.nodup_nil
 | id::ids,hn,hl=>by
  rw[List.nodup_cons]at hn
  obtain⟨b,hb⟩:=hl id (List.mem_cons_self ..)
  rw[List.flatMap_cons,List.nodup_append]
  refine⟨hst.nodup id b hb,flatMap_nodup hst hn.2 fun i hi=>hl i (List.mem_cons_of_mem _ hi),fun x hx y hy e=> ?_⟩
  subst e
  obtain⟨i,hi,hxi⟩:=List.mem_flatMap.1 hy
  obtain⟨b',hb'⟩:=hl i (List.mem_cons_of_mem _ hi)
  exact hst.disj id i b b' hb hb' (fun e=>hn.1 (e▸hi)) x hx hxi
theorem locs_fst (hst:St X Z w tm J N) {em:Em} (hl:LiveX Z.s em):(em.map (locF J)).map (·.1)=(em.map (·.1)).flatMap N:=by
 induction em with
 | nil=>rfl
 | cons x em ih=>
  obtain⟨id,ver,j,n⟩:=x
  obtain⟨cs,hs,_⟩:=hl id ver j n (List.mem_cons_self ..)
  obtain⟨b,off,cur,E,q1,q2,_⟩:=hst.blk id _ (by rw[hs])
  have:=ih fun i v j n hm=>hl i v j n (List.mem_cons_of_mem _ hm)
  simp only[List.map_cons,List.flatMap_cons,this,q2]
  simp[locF,q1]
abbrev Ren:=List (Nat×Blk×List Nat)
def renS:Ren->Sto->Sto
 | [],s=>s
 | (id,b,_)::R,s=>renS R (upd s id ⟨(s id).ver,some b⟩)
def renN:Ren->(Nat->List Nat)->Nat->List Nat
 | [],N=>N
 | (id,_,L)::R,N=>renN R (upd N id L)
theorem renS_same:∀{R:Ren} {s:Sto} {id:Nat},id∉R.map (·.1)->renS R s id=s id
 | [],_,_,_=>rfl
 | (i,b,L)::R,s,id,h=>by
  simp only[List.map_cons,List.mem_cons,not_or]at h
  unfold renS
  rw[renS_same h.2,upd_ne _ _ h.1]
theorem renN_same:∀{R:Ren} {N:Nat->List Nat} {id:Nat},id∉R.map (·.1)->renN R N id=N id
 | [],_,_,_=>rfl
 | (i,b,L)::R,s,id,h=>by
  simp only[List.map_cons,List.mem_cons,not_or]at h
  unfold renN
  rw[renN_same h.2,upd_ne _ _ h.1]
theorem renS_mem:∀{R:Ren} {s:Sto} {id:Nat} {b:Blk} {L:List Nat},(R.map (·.1)).Nodup->(id,b,L)∈R->renS R s id=⟨(s id).ver,some b⟩
 | (i,b0,L0)::R,s,id,b,L,hn,h=>by
  rw[List.map_cons,List.nodup_cons]at hn
  unfold renS
  rcases List.mem_cons.1 h with e|h
  ·cases e
   rw[renS_same hn.1,upd_same]
  ·have hne:id≠i:=fun e=>hn.1 (by rw[<-e];exact List.mem_map.2 ⟨_,h,rfl⟩)
   rw[renS_mem hn.2 h,upd_ne _ _ hne]
 | [],_,_,_,_,_,h=>by cases h
theorem renN_mem:∀{R:Ren} {N:Nat->List Nat} {id:Nat} {b:Blk} {L:List Nat},(R.map (·.1)).Nodup->(id,b,L)∈R->renN R N id=L
 | (i,b0,L0)::R,s,id,b,L,hn,h=>by
  rw[List.map_cons,List.nodup_cons]at hn
  unfold renN
  rcases List.mem_cons.1 h with e|h
  ·cases e
   rw[renN_same hn.1,upd_same]
  ·exact renN_mem hn.2 h
 | [],_,_,_,_,_,h=>by cases h
theorem flatMap_disj {α:Type} {f:α->List Nat}:∀{l:List α},(l.flatMap f).Nodup->∀a∈l,(f a).Nodup/\∀b∈l,(∀x∈f a,x∉f b)∨a=b
 | [],_,a,h=>by cases h
 | c::l,hn,a,ha=>by
  rw[List.flatMap_cons,List.nodup_append]at hn
  obtain⟨h1,h2,h3⟩:=hn
  have up:∀b∈l,∀x∈f b,x∈l.flatMap f:=fun b hb x hx=>List.mem_flatMap.2 ⟨b,hb,hx⟩
  rcases List.mem_cons.1 ha with rfl|ha'
  ·refine⟨h1,fun b hb=> ?_⟩
   rcases List.mem_cons.1 hb with rfl|hb
   ·exact .inr rfl
   ·exact .inl fun x hx hx'=>h3 x hx x (up b hb x hx') rfl
  ·obtain⟨h4,h5⟩:=flatMap_disj h2 a ha'
   refine⟨h4,fun b hb=> ?_⟩
   rcases List.mem_cons.1 hb with rfl|hb
   ·exact .inl fun x hx hx'=>h3 x hx' x (up a ha' x hx) rfl
   ·exact h5 b hb
theorem called (hst:St X Z w tm J N) {em:Em} {M D:List Nat} {R:Ren} {ys:List (List PV)} {Le':List (List Nat)}
  (hX:LiveX Z.s em) (hM:∀id∈M,∃ver blk k l,Z.s id=⟨ver,some blk⟩/\IsRw blk k l) (hD:∀id∈D,99<=id/\∃ver blk k l,Z.s id=⟨ver,some blk⟩/\IsRw blk k l) (hMD:∀id∈M,id∈D∨id∈R.map (·.1)) (hnd:(em.map (·.1)).Nodup)
  (hR:∀id b L,(id,b,L)∈R->∃ver blk k l l',Z.s id=⟨ver,some blk⟩/\IsRw blk k l/\IsRw b k l'/\l'.length=l.length/\(∀σ,BlkC S' w' J σ L id b)/\∀bb,J id=some (bb,0)->∀cur E fz cur' E' fz',w.heap[bb]?=some (Obj.cells cur E fz)->w'.heap[bb]?=some (Obj.cells cur' E' fz')->cur'.size=cur.size)
  (hRn:(R.map (·.1)).Nodup) (hRD:∀id∈R.map (·.1),id∉D/\id∉em.map (·.1))
  (hRL:∀id b L,(id,b,L)∈R->∀x∈L,x∈M.flatMap N∨w.heap.size<=x/\x<w'.heap.size) (hRd:(R.flatMap (·.2.2)).Nodup) (hRe:∀x∈R.flatMap (·.2.2),∀id∈em.map (·.1),x∉N id)
  (hstay:Stay w w' ((em.map (·.1)++M).flatMap N) (em.map (locF J)) (em.map (·.2.2.2)))
  (hbox:∀(e:Nat) (p:Nat×Nat) (cs:List PV) (L:List Nat),(em.map (locF J))[e]?=some p->ys[e]?=some cs->Le'[e]?=some L->BoxO S' w' J0 σ0 p cs L)
  (hyl:ys.length=em.length) (hLl:Le'.length=em.length) (hyn:∀(e:Nat) (x:Nat×Nat×Nat×Nat) (cs:List PV),em[e]?=some x->ys[e]?=some cs->cs.length=x.2.2.2)
  (hSS:∀b,Fz X w N Z.s b->S' b) (hSf:∀b,S' b->Fz X w' (renN R N) (renS R (killS em (dropS D Z.s))) b) :
  Tr (Fz X w N Z.s) S' w w' J J Z.s (renS R (killS em (dropS D Z.s)))/\StS X S' ⟨Z.t,renS R (killS em (dropS D Z.s))⟩ w' tm J (renN R N):=by
 have row_box:∀{id ver ver':Nat} {blk:Blk} {k:K} {l:List (ty k)} {cs:List PV},Z.s id=⟨ver,some blk⟩->IsRw blk k l->Z.s id=⟨ver',some (.box cs)⟩->False:=fun h1 h2 h3=>by
  rw[h1]at h3;cases h3;cases h2
 have hdx:∀id,id∈em.map (·.1)->id∉D:=fun id h1 h2=>by
  obtain⟨⟨i,ver,j,n⟩,hm,rfl⟩:=List.mem_map.1 h1
  obtain⟨cs,hs,_⟩:=hX _ _ _ _ hm
  obtain⟨_,ver',blk,k,l,hs',hw⟩:=hD _ h2
  exact row_box hs' hw hs
 have hσx:∀id ver j n cs,(id,ver,j,n)∈em->Z.s id=⟨ver,some (.box cs)⟩->renS R (killS em (dropS D Z.s)) id=⟨ver,some (.box (splice cs j (List.replicate n .dead)))⟩:=fun id ver j n cs hm hs=>by
  have hin:id∈em.map (·.1):=List.mem_map.2 ⟨_,hm,rfl⟩
  rw[renS_same (fun h=>(hRD id h).2 hin)]
  exact killS_mem hnd hm (by rw[dropS_same (hdx id hin)];exact hs)
 have hσd:∀id,id∈D->renS R (killS em (dropS D Z.s)) id=⟨(Z.s id).ver,none⟩:=fun id h=>by rw[renS_same (fun h2=>(hRD id h2).1 h),killS_same (fun h2=>hdx id h2 h),dropS_mem h]
 have hσr:∀id b L,(id,b,L)∈R->renS R (killS em (dropS D Z.s)) id=⟨(Z.s id).ver,some b⟩:=fun id b L h=>by
  have hin:id∈R.map (·.1):=List.mem_map.2 ⟨_,h,rfl⟩
  rw[renS_mem hRn h,killS_same (hRD id hin).2,dropS_same (hRD id hin).1]
 have hσo:∀id,id∉D->id∉em.map (·.1)->id∉R.map (·.1)->renS R (killS em (dropS D Z.s)) id=Z.s id:=fun id h1 h2 h3=>by rw[renS_same h3,killS_same h2,dropS_same h1]
 have hNx:∀id,id∈em.map (·.1)->renN R N id=N id:=fun id h=>renN_same fun h2=>(hRD id h2).2 h
 let Ch:Nat->Prop:=fun id=>id∈D∨id∈em.map (·.1)∨id∈R.map (·.1)
 have hF:∀b,b∈(em.map (·.1)++M).flatMap N->∃id blk,Ch id/\(Z.s id).blk=some blk/\b∈N id:=fun b hb=>by
  obtain⟨id,hid,hbN⟩:=List.mem_flatMap.1 hb
  rcases List.mem_append.1 hid with h|h
  ·obtain⟨⟨i,ver,j,n⟩,hm,rfl⟩:=List.mem_map.1 h
   obtain⟨cs,hs,_⟩:=hX _ _ _ _ hm
   exact⟨_,_,.inr (.inl h),by rw[hs],hbN⟩
  ·obtain⟨ver,blk,k,l,hs,_⟩:=hM id h
   exact⟨id,_,(hMD id h).elim .inl fun h=> .inr (.inr h),by rw[hs],hbN⟩
 refine StS.step (Z:=Z) hst (renS R (killS em (dropS D Z.s))) Ch hSS (fun b hb=>hstay.old b hb.1 fun h=> ?_) hSf hstay.size (fun b hb hn=>hstay.old b hb fun h=> ?_) (fun id hn=> ?_) ?_ ?_ ?_ ?_ ?_ ?_ ?_ ?_ ?_ ?_
 ·obtain⟨id,blk,_,h2,h3⟩:=hF b h
  exact hb.2.1 ⟨id,blk,h2,h3⟩
 ·obtain⟨id,blk,h1,h2,h3⟩:=hF b h
  exact hn id blk h1 h2 h3
 ·have hn:¬(id∈D∨id∈em.map (·.1)∨id∈R.map (·.1)):=hn
  rw[not_or,not_or]at hn
  exact⟨hσo id hn.1 hn.2.1 hn.2.2,rfl,renN_same hn.2.2⟩
 ·rintro id hc v o n f u ⟨k1,k2,k3⟩
  rcases hc with hc|hc|hc
  ·rw[RefC,hσd id hc]
   exact⟨k1,k2,fun blk k l e _=>by cases e⟩
  ·obtain⟨⟨i,ver,j,n'⟩,hm,rfl⟩:=List.mem_map.1 hc
   obtain⟨cs,hs,_⟩:=hX _ _ _ _ hm
   rw[RefC,hσx _ _ _ _ _ hm hs]
   refine⟨by rw[hs]at k1;exact k1,k2,fun blk k l e hr=>by cases e;cases hr⟩
  ·obtain⟨⟨i,b,L⟩,hm,rfl⟩:=List.mem_map.1 hc
   obtain⟨ver,blk,k,l,l',r1,r2,r3,r4,r5,r6⟩:=hR _ _ _ hm
   simp only at r1 k1 k3⊢
   rw[RefC,hσr _ _ _ hm]
   refine⟨k1,k2,fun blk2 k2' l2 e hr2=> ?_⟩
   cases e
   cases r3.row.same hr2
   obtain⟨m1,m2⟩:=k3 blk k l (by rw[r1]) r2.row
   refine⟨by rw[r4];exact m1,?_⟩
   rcases m2 with m2|⟨bb,c,o2,m2,m3,m4,m5,m6⟩
   ·exact .inl m2
   ·refine .inr ⟨bb,c,o2,m2,m3,m4,m5,fun hf=> ?_⟩
    obtain⟨m7,m8,m9⟩:=m6 hf
    refine⟨m7,by rw[r4];exact m8,fun cur' E' fz' hh=> ?_⟩
    rcases row_head r2.row (hst.blk i _ (by rw[r1]))with⟨q,_⟩ |⟨b2,cap,cur,q,_,_,⟨fz,q2,_⟩,_⟩
    ·rw[m2]at q;cases q
    ·rw[m2]at q;cases q
     rw[r6 _ m2 _ _ _ _ _ _ q2 hh]
     exact m9 _ _ _ q2
 ·rintro id hc v i' j' u ⟨k1,k2,k3⟩
  rcases hc with hc|hc|hc
  ·rw[PtrC,hσd id hc]
   exact⟨k1,k2,fun blk e=>by cases e⟩
  ·obtain⟨⟨i,ver,j,n'⟩,hm,rfl⟩:=List.mem_map.1 hc
   obtain⟨cs,hs,_⟩:=hX _ _ _ _ hm
   rw[PtrC,hσx _ _ _ _ _ hm hs]
   refine⟨by rw[hs]at k1;exact k1,k2,fun blk e=> ?_⟩
   cases e
   exact k3 _ hs
  ·obtain⟨⟨i,b,L⟩,hm,rfl⟩:=List.mem_map.1 hc
   obtain⟨ver,blk,k,l,l',r1,r2,r3,r4,r5,r6⟩:=hR _ _ _ hm
   simp only at r1 k1 k3⊢
   rw[PtrC,hσr _ _ _ hm]
   refine⟨k1,k2,fun blk2 e=> ?_⟩
   cases e
   obtain⟨bb,off,m1,m2⟩:=k3 blk (by rw[r1])
   refine⟨bb,off,m1,?_⟩
   have m3:off=0/\i'<l.length/\u= .pointer (some ⟨bb,i'*size k+j',none⟩):=by cases r2<;>exact m2
   rw[<-r4]at m3
   cases r3<;>exact m3
 ·rintro id b hc hb T
  rcases hc with hc|hc|hc
  ·rw[hσd id hc]at hb;cases hb
  ·obtain⟨⟨i,ver,j,n⟩,hm,rfl⟩:=List.mem_map.1 hc
   obtain⟨cs,hs,hjn⟩:=hX _ _ _ _ hm
   rw[hNx _ hc]
   rw[hσx _ _ _ _ _ hm hs]at hb
   cases hb
   simp only at hs⊢
   obtain⟨bb,off,cur,E,q1,q2,⟨fz,q3,q3'⟩,q4,q5⟩:=hst.blk i _ (by rw[hs])
   obtain⟨e,he⟩:=List.getElem?_of_mem hm
   have he':e<em.length:=(qS1.1 he).1
   have hloc:(em.map (locF J))[e]?=some (bb,off+j):=by simp[he,locF,q1]
   obtain⟨c0,c,E',fz',p1,p2,p3,p4⟩:=hstay.part e bb (off+j) n hloc (by simp[he])
   rw[q3]at p1
   cases p1
   obtain⟨yc,hyc⟩:∃yc,ys[e]?=some yc:=⟨ys[e],by simp[hyl,he']⟩
   obtain⟨Lc,hLc⟩:∃Lc,Le'[e]?=some Lc:=⟨Le'[e],by simp[hLl,he']⟩
   have hycn:=hyn e _ yc he hyc
   simp only at hycn
   obtain⟨cur2,E2,us,r1,r2,r3,r4⟩:=hbox e _ yc Lc hloc hyc hLc
   obtain⟨fz2,r1,_⟩:=r1
   rw[p2]at r1
   cases r1
   have husl:us.length=yc.length:=by
    exact r4.len.symm
   have hsl:(splice cs j (List.replicate n PV.dead)).length=cs.length:=splice_len (by simp;omega)
   refine⟨bb,off,c,E,q1,q2,⟨fz,p2,by rw[NoIce,p3];exact q3'⟩,by rw[hsl,p3];exact q4,fun i' p hp=> ?_⟩
   rw[splice_get (by simp;omega)]at hp
   have out:(i'<j∨j+n<=i')->cs[i']?=some p->∃u,c[off+i']?=some u/\u.oneCell'=true/\ValS S' w' J (renS R (killS em (dropS D Z.s))) p u:=fun hout hp=>by
    obtain⟨u,hu,h1c,hv⟩:=q5 i' p hp
    exact⟨u,by rw[p4 (off+i') (by omega)];exact hu,h1c,T.vs hv⟩
   split at hp
   ·rename_i h1;exact out (.inl h1) hp
   ·split at hp
    ·rename_i h1 h2
     simp at h2
     have hi2:i'-j<us.length:=by rw[husl,hycn];omega
     obtain⟨m1,m2⟩:=r3 (i'-j) us[i'-j] (by simp[hi2])
     rw[List.getElem?_replicate,if_pos (by omega)]at hp
     cases hp
     exact⟨_,by rw[show off+i'=off+j+(i'-j) by omega];exact m1,m2,trivial⟩
    ·rename_i h1 h2
     simp at h2
     exact out (.inr h2) hp
  ·obtain⟨⟨i,b0,L⟩,hm,rfl⟩:=List.mem_map.1 hc
   obtain⟨ver,blk,k,l,l',r1,r2,r3,r4,r5,r6⟩:=hR _ _ _ hm
   rw[hσr _ _ _ hm]at hb
   cases hb
   rw[renN_mem hRn hm]
   exact r5 _
 ·rintro id b hc hb x hx
  rcases hc with hc|hc|hc
  ·rw[hσd id hc]at hb;cases hb
  ·rw[hNx _ hc]at hx
   obtain⟨⟨i,ver,j,n⟩,hm,rfl⟩:=List.mem_map.1 hc
   obtain⟨cs,hs,hjn⟩:=hX _ _ _ _ hm
   exact .inl ⟨_,_,.inr (.inl hc),by rw[hs],hx⟩
  ·obtain⟨⟨i,b0,L⟩,hm,rfl⟩:=List.mem_map.1 hc
   rw[renN_mem hRn hm]at hx
   rcases hRL _ _ _ hm x hx with h|h
   ·obtain⟨id,hid,hbN⟩:=List.mem_flatMap.1 h
    obtain⟨ver,blk,k,l,hs,_⟩:=hM id hid
    exact .inl ⟨id,_,(hMD id hid).elim .inl fun h=> .inr (.inr h),by rw[hs],hbN⟩
   ·exact .inr h
 ·rintro id b hc hb
  rcases hc with hc|hc|hc
  ·rw[hσd id hc]at hb;cases hb
  ·rw[hNx _ hc]
   obtain⟨⟨i,ver,j,n⟩,hm,rfl⟩:=List.mem_map.1 hc
   obtain⟨cs,hs,hjn⟩:=hX _ _ _ _ hm
   exact hst.nodup _ _ (by rw[hs])
  ·obtain⟨⟨i,b0,L⟩,hm,rfl⟩:=List.mem_map.1 hc
   rw[renN_mem hRn hm]
   exact(flatMap_disj hRd _ hm).1
 ·rintro id id' b b' hc hc' hb hb' hne
  rcases hc with hc|hc|hc
  ·rw[hσd id hc]at hb;cases hb
  ·rcases hc' with hc'|hc'|hc'
   ·rw[hσd id' hc']at hb';cases hb'
   ·rw[hNx _ hc,hNx _ hc']
    obtain⟨⟨i,ver,j,n⟩,hm,rfl⟩:=List.mem_map.1 hc
    obtain⟨cs,hs,hjn⟩:=hX _ _ _ _ hm
    obtain⟨⟨i',ver',j',n'⟩,hm',rfl⟩:=List.mem_map.1 hc'
    obtain⟨cs',hs',hjn'⟩:=hX _ _ _ _ hm'
    exact hst.disj _ _ _ _ (by rw[hs]) (by rw[hs']) hne
   ·obtain⟨⟨i,b0,L⟩,hm,rfl⟩:=List.mem_map.1 hc'
    rw[hNx _ hc,renN_mem hRn hm]
    exact fun x hx hx'=>hRe x (List.mem_flatMap.2 ⟨_,hm,hx'⟩) _ hc hx
  ·obtain⟨⟨i,b0,L⟩,hm,rfl⟩:=List.mem_map.1 hc
   rcases hc' with hc'|hc'|hc'
   ·rw[hσd id' hc']at hb';cases hb'
   ·rw[hNx _ hc',renN_mem hRn hm]
    exact fun x hx hx'=>hRe x (List.mem_flatMap.2 ⟨_,hm,hx⟩) _ hc' hx'
   ·obtain⟨⟨i',b0',L'⟩,hm',rfl⟩:=List.mem_map.1 hc'
    rw[renN_mem hRn hm,renN_mem hRn hm']
    rcases(flatMap_disj hRd _ hm).2 _ hm' with h|h
    ·exact h
    ·exact absurd (congrArg (·.1) h) hne
 ·rintro j p hj hc
  obtain⟨h1,cs,h2,h3⟩:=hst.ext j p hj
  rcases hc with hc|hc|hc
  ·obtain⟨_,ver,blk,k,l,hs,hw⟩:=hD j hc
   rw[hs]at h2;cases h2;cases hw
  ·obtain⟨⟨i,ver,j',n⟩,hm,rfl⟩:=List.mem_map.1 hc
   obtain⟨cs',hs,hjn⟩:=hX _ _ _ _ hm
   simp only at h2 hs⊢
   rw[hs]at h2
   cases h2
   refine⟨h1,_,by rw[hσx _ _ _ _ _ hm hs],?_⟩
   rw[h3,splice_len (by simp;omega)]
  ·obtain⟨⟨i,b0,L⟩,hm,rfl⟩:=List.mem_map.1 hc
   obtain⟨ver,blk,k,l,l',r1,r2,_⟩:=hR _ _ _ hm
   simp only at r1 h2
   rw[r1]at h2;cases h2;cases r2
 ·rintro q u n hq hc
  obtain⟨h1,blk0,k0,l0,h2,h3,h4,_⟩:=hst.rxt q u n hq
  rcases hc with hc|hc|hc
  ·have:=(hD _ hc).1;omega
  ·obtain⟨⟨i,ver,j',n⟩,hm,e⟩:=List.mem_map.1 hc
   obtain⟨cs',hs,hjn⟩:=hX _ _ _ _ hm
   simp only at e
   rw[e,h2]at hs;cases hs;cases h3
  ·obtain⟨⟨i,b0,L⟩,hm,e⟩:=List.mem_map.1 hc
   obtain⟨ver,blk,k,l,l',r1,r2,r3,r4,_⟩:=hR _ _ _ hm
   simp only at e
   subst e
   rw[h2]at r1
   cases r1
   exact⟨b0,k,l',by rw[hσr _ _ _ hm,h2],r3.row,by rw[r4,r2.row.len h3,h4]⟩
 ·obtain⟨f1,f2,f3,f4,f5,f6⟩:=hst.frm
  refine⟨hstay.os.trans f1,hstay.tape.trans f2,hstay.output.trans f3,Nat.le_trans f4 hstay.size,fun b hb hbF=> ?_,fun jx b off n hj hn=> ?_⟩
  ·rw[hstay.old b (by omega) fun h=> ?_]
   ·exact f5 b hb hbF
   ·obtain⟨id,blk,_,h2,h3⟩:=hF b h
    rcases hst.new id blk h2 b h3 with h|h
    ·exact hbF h
    ·omega
  ·obtain⟨c0,c,E,fz,q1,q2,q3,q4⟩:=f6 jx b off n hj hn
   obtain⟨e1,cs,e2,e3⟩:=hst.ext jx (b,off) hj
   by_cases hin:jx∈em.map (·.1)
   ·obtain⟨⟨i,ver,j',n'⟩,hm,rfl⟩:=List.mem_map.1 hin
    simp only at e1 e2
    obtain⟨cs',hs,hjn⟩:=hX _ _ _ _ hm
    rw[hs]at e2
    cases e2
    rw[hn]at e3
    cases e3
    obtain⟨e,he⟩:=List.getElem?_of_mem hm
    have hloc:(em.map (locF J))[e]?=some (b,off+j'):=by simp[he,locF,e1]
    obtain⟨c0',c',E',fz',p1,p2,p3,p4⟩:=hstay.part e b (off+j') n' hloc (by simp[he])
    rw[q2]at p1
    cases p1
    exact⟨c0,c',E,fz,q1,p2,p3.trans q3,fun o ho=>by rw[p4 o (by omega),q4 o ho]⟩
   ·refine⟨c0,c,E,fz,q1,?_,q3,q4⟩
    rw[hstay.old b ((Array.getElem?_eq_some_iff.1 q2).1) fun h=> ?_]
    ·exact q2
    ·obtain⟨id,blk,h1,h2,h3⟩:=hF b h
     obtain⟨b0,o0,cur,E0,m1,m2,_⟩:=hst.blk jx _ e2
     rw[e1]at m1
     cases m1
     have hne:id≠jx:=by
      rintro rfl
      rcases h1 with h1|h1|h1
      ·obtain⟨_,ver,blk,k,l,hs,hw⟩:=hD _ h1
       rw[hs]at e2;cases e2;cases hw
      ·exact hin h1
      ·obtain⟨⟨i,b0,L⟩,hm,rfl⟩:=List.mem_map.1 h1
       obtain⟨ver,blk,k,l,l',r1,r2,_⟩:=hR _ _ _ hm
       simp only at r1 e2
       rw[r1]at e2;cases e2;cases r2
     exact hst.disj id jx _ _ h2 e2 hne b h3 (by rw[m2];simp)
 ·refine X.cl w w' hst.env fun b hb=>hstay.old b (by have:=X.hw;have:=hst.frm.size;omega) fun h=> ?_
  obtain⟨id,blk,_,h2,h3⟩:=hF b h
  rcases hst.new id blk h2 b h3 with h|h
  ·have:=X.hG b h;omega
  ·have:=X.hw;omega
end
end Go.Px
set_option maxHeartbeats 2000000
namespace Go.Px
variable {S S' S1 S2:Nat->Prop} {k:K} {G i j n off ver:Nat} {J J' J0:Nat->Option (Nat×Nat)} {N:Nat->List Nat} {u:Value} {x:Operand} {w w':World} {f:FuncId} {us:List Value} {s s2 σ σ' σ0:Sto} {p q:PV} {A B L L1 L2 La m pk:List Nat} {mv:Bool} {α:Type} {ps:List PV} {locs:List (Nat×Nat)} {Le:List (List Nat)} {exts':List (List PV)}
open Go.RowKit
section
variable {P:Program} {PC:Con} {X:Ctx} {nt:Nat} {Q:Exit->Act->World->Prop} {Z:Env} {a:Act} {w:World} {o:Oper} {v:PV} {t:Nat->PV} {s s':Sto} {r wr:List Nat}
variable {J:Nat->Option (Nat×Nat)} {N:Nat->List Nat} {tm:Array Value} {S:Nat->Prop}
theorem StS.setBox (h:StS X S ⟨t,s⟩ w tm J N) {id b:Nat} {cs cs':List PV} (hs:s id=⟨ver,some (.box cs)⟩) (hfit:j+cs'.length<=cs.length) (hβ:J id=some (b,off)) {cur:Array Value} {E:TypeId} (hrow:RowAt w b cur E)
  (hus:∀(i:Nat) u,us[i]?=some u->cur[off+j+i]?=some u/\u.oneCell'=true) (hall:All2 (ValS S w J s) cs' us) :
  Tr S S w w J J s (upd s id ⟨ver,some (.box (splice cs j cs'))⟩)/\StS X S ⟨t,upd s id ⟨ver,some (.box (splice cs j cs'))⟩⟩ w tm J N:=by
 have hlive:∀i b',(upd s id ⟨ver,some (.box (splice cs j cs'))⟩ i).blk=some b'->∃b0,(s i).blk=some b0:=fun i b' hb=>by
  by_cases hi:i=id
  ·subst hi;exact⟨_,by rw[hs]⟩
  ·rw[upd_ne _ _ hi]at hb;exact⟨b',hb⟩
 refine StS.step (Z:=⟨t,s⟩) h (upd s id ⟨ver,some (.box (splice cs j cs'))⟩) (· = id) (fun _ h=>h) (fun _ _=>rfl) (fun x hx=> ?_) (Nat.le_refl _) (fun _ _ _=>rfl) (fun i hi=>⟨upd_ne _ _ hi,rfl,rfl⟩) ?_ ?_ ?_ ?_ ?_ ?_ ?_ (fun q u n hq e=>absurd e (h.rx_box hs q u n hq)) h.frm h.env
 ·obtain⟨h1,h2,h3⟩:=h.fz x hx
  exact⟨h1,fun⟨i,bl,h4,h5⟩=>by obtain⟨b0,h6⟩:=hlive i bl h4;exact h2 ⟨i,b0,h6,h5⟩,h3⟩
 ·rintro i rfl vv oo n f u ⟨k1,k2,k3⟩
  rw[RefC,upd_same]
  have k1:vv<=(s i).ver:=k1
  rw[hs]at k1
  exact⟨k1,k2,fun blk k l e hr=>by cases e;cases hr⟩
 ·rintro i rfl vv i' j' u ⟨k1,k2,k3⟩
  rw[PtrC,upd_same]
  have k1:vv<=(s i).ver:=k1
  rw[hs]at k1
  refine⟨k1,k2,fun blk e=> ?_⟩
  cases e
  exact k3 _ hs
 ·rintro i b' rfl hb T
  rw[upd_same]at hb
  cases hb
  obtain⟨b0,off0,cur0,E0,q1,q2,q3,q4,q5⟩:=h.blk i _ (by show(s i).blk=_;rw[hs])
  rw[hβ]at q1
  cases q1
  obtain⟨fz,p1,_⟩:=hrow
  obtain⟨fz0,p2,p3⟩:=q3
  rw[p1]at p2
  cases p2
  refine⟨b,off,cur,E,hβ,q2,⟨fz,p1,p3⟩,by rw[splice_len hfit];exact q4,fun i' p hp=> ?_⟩
  rw[splice_get hfit]at hp
  have out:cs[i']?=some p->∃u,cur[off+i']?=some u/\u.oneCell'=true/\ValS S w J (upd s i ⟨ver,some (.box (splice cs j cs'))⟩) p u:=fun hp=>by
   obtain⟨u,hu,h1c,hv⟩:=q5 i' p hp
   exact⟨u,hu,h1c,T.vs hv⟩
  split at hp
  ·exact out hp
  ·split at hp
   ·rename_i h1 h2
    obtain⟨u,hu,hv⟩:=hall.get _ _ hp
    obtain⟨m1,m2⟩:=hus _ _ hu
    exact⟨u,by rw[show off+i'=off+j+(i'-j) by omega];exact m1,m2,T.vs hv⟩
   ·exact out hp
 ·rintro i b' rfl hb x hx
  exact .inl ⟨_,_,rfl,by show(s _).blk=_;rw[hs],hx⟩
 ·rintro i b' rfl hb
  exact h.nodup i _ (by show(s i).blk=_;rw[hs])
 ·rintro i i' b1 b2 rfl rfl _ _ hne
  exact absurd rfl hne
 ·rintro jx p hp rfl
  obtain⟨h1,cs0,h2,h3⟩:=h.ext jx p hp
  have h2:(s jx).blk=some (.box cs0):=h2
  rw[hs]at h2
  cases h2
  exact⟨h1,_,by rw[upd_same],by rw[h3,splice_len hfit]⟩
def HxB (em0:Em) (J0:Nat->Option (Nat×Nat)) (σ0:Sto) (J:Nat->Option (Nat×Nat)) (s:Sto):Prop:=∀(e:Nat) (x:Nat×Nat×Nat×Nat) (u:Value),em0[e]?=some x->PtrC J0 σ0 e 0 0 0 u->PtrC J s x.1 x.2.1 0 x.2.2.1 u
theorem HxB.tr {w1 w2:World} {em0:Em} {J1 J2:Nat->Option (Nat×Nat)} {s1:Sto} (h:HxB em0 J0 σ0 J1 s1) (T:Tr S1 S2 w1 w2 J1 J2 s1 s2):HxB em0 J0 σ0 J2 s2:=fun e x u h1 h2=>T.ptr (h e x u h1 h2)
theorem capB_spec {em0:Em} (hx:HxB em0 J0 σ0 J s) (h:capB em0 p=some q) (hv:Val0 S' w J0 σ0 p u):Val0 S w J s q u:=by
 unfold capB at h
 split at h
 ·rename_i e
  split at h
  ·rename_i id ver j n he
   cases h
   exact hx e _ u he hv
  ·cases h
 ·cases h
theorem capBs_spec {em0:Em} {J0:Nat->Option (Nat×Nat)} {σ0:Sto} (hx:HxB em0 J0 σ0 J s) {S':Nat->Prop}:∀{ps qs:List PV} {us:List Value},capBs em0 ps=some qs->All2 (Val0 S' w J0 σ0) ps us->All2 (Val0 S w J s) qs us
 | [],qs,us,h,hv=>by cases h;cases us<;>exact hv
 | p::ps,qs,[],h,hv=>hv.elim
 | p::ps,qs,u::us,h,hv=>by
  unfold capBs at h
  split at h
  ·rename_i q qs' h1 h2
   cases h
   exact⟨capB_spec hx h1 hv.1,capBs_spec hx h2 hv.2⟩
  ·cases h
theorem openC_spec {em0:Em} (hx:HxB em0 J0 σ0 J s) (h:StS X S ⟨t,s⟩ w tm J N) {id:Nat} (hid:99<=id) (ho:OwnS S w J0 σ0 p u L) (hp:Pend X S s N L) (hr:(openC em0 id p).Run PC s q s' r wr) :
  ∃J' N',StS X S ⟨t,s'⟩ w tm J' N'/\Tr S S w w J J' s s'/\ValS S w J' s' q u/\Held s N s' N' L:=by
 unfold openC at hr
 split at hr
 ·rename_i f c cs
  split at hr
  ·rename_i qs hq
   obtain⟨rfl,rfl,-,-⟩:q=_/\s'=_/\r=[]/\wr=[]:=hr
   obtain⟨_,us,e,hv⟩:=ho
   exact⟨J,N,h,Tr.refl,⟨us,e,capBs_spec hx hq hv⟩,Held.refl⟩
  ·exact hr.elim
 ·exact openS_spec h hid ho hp hr
theorem openB_spec {em0:Em} {J0:Nat->Option (Nat×Nat)} {σ0:Sto}:∀{ps qs:List PV} {us:List Value} {id:Nat} {L:List Nat} {J:Nat->Option (Nat×Nat)} {N:Nat->List Nat} {s s':Sto} {r wr:List Nat},HxB em0 J0 σ0 J s->StS X S ⟨t,s⟩ w tm J N->99<=id->All3 (OwnS S w J0 σ0) ps us L->Pend X S s N L->(openB em0 id ps).Run PC s qs s' r wr->
  ∃J' N',StS X S ⟨t,s'⟩ w tm J' N'/\Tr S S w w J J' s s'/\All2 (ValS S w J' s') qs us/\Held s N s' N' L
 | [],qs,[],id,L,J,N,s,s',r,wr,_,h,_,ho,hp,hr=>by
  obtain⟨rfl,rfl,-,-⟩:=hr
  exact⟨J,N,h,Tr.refl,trivial,Held.refl⟩
 | p::ps,qs,u::us,id,L,J,N,s,s',r,wr,hx,h,hid,ho,hp,hr=>by
  obtain⟨L1,L2,rfl,h1,h2⟩:=ho
  obtain⟨a1,s1,r1,w1,r2,w2,k1,k2⟩:=bind_run hr
  obtain⟨a2,s2,r3,w3,r4,w4,k3,k4⟩:=bind_run k2
  obtain⟨e,e2,-,-⟩:=k4
  subst e e2
  obtain⟨J1,N1,m1,m2,m3,m4⟩:=openC_spec hx h hid h1 hp.left k1
  obtain⟨J2,N2,m5,m6,m7,m8⟩:=openB_spec (hx.tr m2) m1 (by omega) h2 (hp.right m4) k3
  exact⟨J2,N2,m5,m2.trans m6,⟨m6.vs m3,m7⟩,m4.app m8⟩
 | [],_,_::_,_,_,_,_,_,_,_,_,_,_,_,h,_,_=>h.elim
 | _::_,_,[],_,_,_,_,_,_,_,_,_,_,_,h,_,_=>h.elim
theorem backL_spec {em0:Em} {J0:Nat->Option (Nat×Nat)} {σ0:Sto} {k:Eff PV}:∀{em:Em} {ys:List (List PV)} {locs:List (Nat×Nat)} {Le:List (List Nat)} {base:Nat} {J:Nat->Option (Nat×Nat)} {N:Nat->List Nat} {s s':Sto} {v:PV} {r wr:List Nat},HxB em0 J0 σ0 J s->StS X S ⟨t,s⟩ w tm J N->99<=base->locs.length=em.length->Le.length=em.length->
  (∀(e:Nat) (p:Nat×Nat) (cs:List PV) (L:List Nat),locs[e]?=some p->ys[e]?=some cs->Le[e]?=some L->BoxO S w J0 σ0 p cs L)->Pend X S s N Le.flatten->
  (∀(e:Nat) (x:Nat×Nat×Nat×Nat) (p:Nat×Nat),em[e]?=some x->locs[e]?=some p->PtrC J s x.1 x.2.1 0 x.2.2.1 (.pointer (some ⟨p.1,p.2,none⟩)))->(backL em0 base em ys k).Run PC s v s' r wr->
  ∃J' N' s1 r' wr',StS X S ⟨t,s1⟩ w tm J' N'/\Tr S S w w J J' s s1/\k.Run PC s1 v s' r' wr'
 | [],[],locs,Le,base,J,N,s,s',v,r,wr,_,h,hb,hl,hL,hB,hP,hptr,hr=>⟨J,N,s,r,wr,h,Tr.refl,hr⟩
 | [],_::_,_,_,_,_,_,_,_,_,_,_,_,_,_,_,_,_,_,_,hr=>hr.elim
 | _::_,[],_,_,_,_,_,_,_,_,_,_,_,_,_,_,_,_,_,_,hr=>hr.elim
 | (id,ver,j,n)::em,y::ys,locs,Le,base,J,N,s,s',v,r,wr,hx,h,hb,hl,hL,hB,hP,hptr,hr=>by
  match locs,Le,hl,hL with
  | p::locs,L::Le,hl,hL=>
  obtain⟨cs',s1,r1,w1,r2,w2,k1,k2⟩:=bind_run hr
  obtain⟨cur,E,us,b1,b2,b3,b4⟩:=hB 0 p y L rfl rfl rfl
  have hPl:Pend X S s N L:=by rw[List.flatten_cons]at hP;exact hP.left
  obtain⟨J1,N1,st1,T1,v1,hh1⟩:=openB_spec hx h hb b4 hPl k1
  obtain⟨blk,r3,hs1,rfl,k2⟩:=live_run k2
  cases blk with
  | rowb k l=>exact k2.elim
  | objb o=>exact k2.elim
  | iterb=>exact k2.elim
  | rowd=>exact k2.elim
  | rowx=>exact k2.elim
  | box cs=>
   simp only at k2
   split at k2
   case isFalse=>exact k2.elim
   rename_i hfit
   obtain⟨w3,_,k2⟩:=k2
   have hp0:=T1.ptr (hptr 0 (id,ver,j,n) p rfl rfl)
   obtain⟨_,_,hp0⟩:=hp0
   obtain⟨b,off,e1,e2⟩:=hp0 _ hs1
   simp only at e1 e2
   have e3:p=(b,off+j):=by
    obtain⟨p1,p2⟩:=p
    injection e2 with e2
    injection e2 with e2
    injection e2 with e4 e5
    simp only at e4 e5
    rw[e4,e5]
   subst e3
   obtain⟨T2,st2⟩:=StS.setBox st1 hs1 hfit e1 b1 b3 v1
   have hP2:Pend X S s1 N1 Le.flatten:=by rw[List.flatten_cons]at hP;exact hP.right hh1
   have hP3:Pend X S (upd s1 id ⟨ver,some (.box (splice cs j cs'))⟩) N1 Le.flatten:=⟨hP2.nd,hP2.ns,hP2.new,fun i bl hbl x hx=>by
    by_cases hi:i=id
    ·subst hi;exact hP2.dj i _ (by rw[hs1]) x hx
    ·rw[upd_ne _ _ hi]at hbl;exact hP2.dj i bl hbl x hx⟩
   obtain⟨J',N',s2,r',wr',q1,q2,q3⟩:=backL_spec ((hx.tr T1).tr T2) st2 (by omega) (by simpa using hl) (by simpa using hL) (fun e p c L h1 h2 h3=>hB (e+1) p c L (by simpa using h1) (by simpa using h2) (by simpa using h3)) hP3
    (fun e x p h1 h2=>T2.ptr (T1.ptr (hptr (e+1) x p (by simpa using h1) (by simpa using h2)))) k2
   exact⟨J',N',s2,r',wr',q1,T1.trans (T2.trans q2),q3⟩
theorem flat_map {N:Nat->List Nat}:∀{ms:List (List Nat)},(ms.map fun m=>m.flatMap N).flatten=ms.flatten.flatMap N
 | []=>rfl
 | m::ms=>by rw[List.map_cons,List.flatten_cons,List.flatten_cons,List.flatMap_append,flat_map]
theorem disjL_spec {a b:List Nat} (h:disjL a b=true):∀x∈a,x∉b:=fun x hx hy=>by
 have:=List.all_eq_true.1 h x hx
 simp[hy]at this
def RenOf (Q:PV->Value->List Nat->Prop) (s:Sto) (x:Nat×Blk×List Nat) (u:Value):Prop:=
 (∃ver k l0 l,s x.1=⟨ver,some (.rowb k l0)⟩/\x.2.1= .rowb k l/\Q (.row true k l) u x.2.2)∨∃ver k l0 l,s x.1=⟨ver,some (.rowd k l0)⟩/\x.2.1= .rowd k l/\Q (.drow k l) u x.2.2
theorem backR_run {PC:Con} {Q:PV->Value->List Nat->Prop} {k:Eff PV} {v:PV} {s':Sto}:∀{ids:List Nat} {bs:List PV} {gs:List Value} {L:List Nat} {s:Sto} {r wr:List Nat},(backR ids bs k).Run PC s v s' r wr->All3 Q bs gs L->ids.Nodup->
  ∃(R:Ren) (r' wr':List Nat),R.map (·.1)=ids/\k.Run PC (renS R s) v s' r' wr'/\R.flatMap (·.2.2)=L/\All2 (RenOf Q s) R gs
 | [],[],[],L,s,r,wr,hr,ho,_=>⟨[],r,wr,rfl,hr,ho.symm,trivial⟩
 | id::ids,b::bs,u::gs,L,s,r,wr,hr,ho,hn=>by
  obtain⟨L1,L2,e,h1,h2⟩:=ho
  subst e
  rw[List.nodup_cons]at hn
  have fin:∀(ver:Nat) (nb:Blk) {r1 w1:List Nat},(s id).ver=ver->(backR ids bs k).Run PC (upd s id ⟨ver,some nb⟩) v s' r1 w1->RenOf Q s (id,nb,L1) u->
    ∃(R:Ren) (r' wr':List Nat),R.map (·.1)=id::ids/\k.Run PC (renS R s) v s' r' wr'/\R.flatMap (·.2.2)=L1++L2/\All2 (RenOf Q s) R (u::gs):=by
   intro ver nb r1 w1 hv hr hro
   obtain⟨R,r',wr',q1,q2,q3,q4⟩:=backR_run hr h2 hn.2
   refine⟨(id,nb,L1)::R,r',wr',by simp[q1],by unfold renS;rw[hv];exact q2,by rw[List.flatMap_cons,q3],hro,?_⟩
   have key:∀(R:Ren) (gs:List Value),(∀x∈R,x.1≠id)->All2 (RenOf Q (upd s id ⟨ver,some nb⟩)) R gs->All2 (RenOf Q s) R gs:=by
    intro R
    induction R with
    | nil=>intro gs _ h;cases gs<;>exact h
    | cons x R ih=>
     intro gs hx h
     cases gs with
     | nil=>exact h
     | cons g gs=>
      refine⟨?_,ih gs (fun y hy=>hx y (List.mem_cons_of_mem _ hy)) h.2⟩
      have h0:=h.1
      unfold RenOf at h0⊢
      rw[upd_ne _ _ (hx x (List.mem_cons_self ..))]at h0
      exact h0
   exact key R gs (fun x hx e=>hn.1 (by rw[<-q1];exact List.mem_map.2 ⟨x,hx,e⟩)) q4
  unfold backR at hr
  split at hr
  ·rename_i e1 e2;cases e1
  ·rename_i i' ids' k1 l1 bs' e1 e2
   cases e1;cases e2
   obtain⟨r',_,hr⟩:=hr
   simp only at hr
   split at hr
   case h_2=>exact hr.elim
   rename_i ver k0 l0 hs
   split at hr
   case h_2=>exact hr.elim
   rename_i l2 hcl
   obtain⟨rfl,rfl⟩:=castL_some hcl
   obtain⟨w1,_,hr⟩:=hr
   exact fin ver _ (by rw[hs]) hr (.inl ⟨ver,k1,l0,l2,hs,rfl,h1⟩)
  ·rename_i i' ids' k1 l1 bs' e1 e2
   cases e1;cases e2
   obtain⟨r',_,hr⟩:=hr
   simp only at hr
   split at hr
   case h_2=>exact hr.elim
   rename_i ver k0 l0 hs
   split at hr
   case h_2=>exact hr.elim
   rename_i l2 hcl
   obtain⟨rfl,rfl⟩:=castL_some hcl
   obtain⟨w1,_,hr⟩:=hr
   exact fin ver _ (by rw[hs]) hr (.inr ⟨ver,k1,l0,l2,hs,rfl,h1⟩)
  ·exact hr.elim
 | [],_::_,_,_,_,_,_,hr,_,_=>hr.elim
 | _::_,[],_,_,_,_,_,hr,_,_=>hr.elim
 | [],[],_::_,_,_,_,_,_,h,_=>h.elim
 | _::_,_::_,[],_,_,_,_,_,h,_=>h.elim
theorem All2.zip2 {α J γ:Type} {A:α->γ->Prop} {B:J->γ->Prop}:∀{as:List α} {bs:List J} {gs:List γ},All2 A as gs->All2 B bs gs->∀(i:Nat) a b,as[i]?=some a->bs[i]?=some b->∃g,A a g/\B b g
 | a::as,b::bs,g::gs,⟨h1,h2⟩,⟨h3,h4⟩,0,x,y,hx,hy=>by simp at hx hy;subst hx hy;exact⟨g,h1,h3⟩
 | a::as,b::bs,g::gs,⟨h1,h2⟩,⟨h3,h4⟩,i+1,x,y,hx,hy=>All2.zip2 h2 h4 i x y (by simpa using hx) (by simpa using hy)
 | [],_,_,_,_,i,x,y,hx,_=>by simp at hx
 | _::_,[],_,_,_,i,x,y,_,hy=>by simp at hy
 | _::_,_::_,[],h,_,_,_,_,_,_=>h.elim
theorem ren_ok (hst:St X ⟨t,s⟩ w tm J N) {mA:List Nat} {gs:List Value} {R:Ren} (hmv:MV w J s mA gs) (hR:All2 (RenOf (OwnS S' w' J0 σ0) s) R gs) (hm:R.map (·.1)=mA):∀id b L,(id,b,L)∈R->∃ver blk k l l',s id=⟨ver,some blk⟩/\IsRw blk k l/\IsRw b k l'/\l'.length=l.length/\(∀σ,BlkC S' w' J σ L id b)/\∀bb,J id=some (bb,0)->∀cur E fz cur' E' fz',w.heap[bb]?=some (Obj.cells cur E fz)->w'.heap[bb]?=some (Obj.cells cur' E' fz')->cur'.size=cur.size:=fun id b L hmem=>by
 obtain⟨i,hi⟩:=List.getElem?_of_mem hmem
 obtain⟨u,⟨ver,blk,k,l,off,n,h1,h2,h3⟩,h4⟩:=All2.zip2 hmv hR i id _ (by rw[<-hm,List.getElem?_map,hi];rfl) hi
 obtain⟨_,_,h3⟩:=h3
 obtain⟨e1,e2⟩:=h3 _ k l h1 h2.row
 have hd:=row_head h2.row (hst.blk id _ (by show(s id).blk=_;rw[h1]))
 rcases h4 with⟨ver',k',l0,l',p1,p2,p3⟩ |⟨ver',k',l0,l',p1,p2,p3⟩
 ·simp only at p1 p2 p3
  rw[h1]at p1
  cases p1
  cases h2
  subst p2
  rcases e2 with⟨e2,e3⟩ |⟨bb,c,o2,e2,e3,e4,e5,e6⟩
  ·refine⟨ver,_,k,l,l',h1,.b,.b,?_,fun σ=> ?_,fun bb hb=>by rw[e2]at hb;cases hb⟩
   ·rcases hd with⟨_,q,_⟩ |⟨_,_,_,q,_⟩
    ·rcases p3 with⟨_,q2,_⟩ |⟨g,cap,cur,q2,_⟩
     ·rw[q,q2]
     ·rw[e3]at q2;cases q2
    ·rw[e2]at q;cases q
   ·rcases p3 with⟨_,q2,q3⟩ |⟨g,cap,cur,q2,_⟩
    ·exact .inl ⟨e2,q2,q3⟩
    ·rw[e3]at q2;cases q2
  ·obtain⟨f1,f2,f3⟩:=e6 rfl
   have ho:=e5 (.inr rfl)
   rw[f1,Nat.zero_mul]at ho
   subst ho
   rcases p3 with⟨q2,_⟩ |⟨g,cap,cur,q2,q3,q4⟩
   ·rw[e4]at q2;cases q2
   ·rw[e4]at q2
    injection q2 with q5 q6 q7
    cases q5
    refine⟨ver,_,k,l,l',h1,.b,.b,by rw[<-q6,f2],fun σ=> .inr ⟨bb,cap,cur,e2,q3,q4⟩,fun b2 hb cu E fz cu' E' fz' w1 w2=> ?_⟩
    rw[e2]at hb;cases hb
    obtain⟨fz2,q8,_⟩:=q4.2.1
    rw[q8]at w2;cases w2
    rw[q4.2.2.2.2.1,<-q7,f3 _ _ _ w1]
 ·simp only at p1 p2 p3
  rw[h1]at p1
  cases p1
  cases h2
  subst p2
  rcases e2 with⟨e2,e3⟩ |⟨bb,c,o2,e2,e3,e4,e5,e6⟩
  ·refine⟨ver,_,k,l,l',h1,.d,.d,?_,fun σ=> ?_,fun bb hb=>by rw[e2]at hb;cases hb⟩
   ·rcases hd with⟨_,q,_⟩ |⟨_,_,_,q,_⟩
    ·rcases DOwn_iff.1 p3 with⟨_,q2,_⟩ |⟨g,cap,cur,L',q2,_⟩
     ·rw[q,q2]
     ·rw[e3]at q2;cases q2
    ·rw[e2]at q;cases q
   ·rcases DOwn_iff.1 p3 with⟨_,q2,q3⟩ |⟨g,cap,cur,L',q2,_⟩
    ·exact .inl ⟨e2,q2,q3⟩
    ·rw[e3]at q2;cases q2
  ·obtain⟨f1,f2,f3⟩:=e6 rfl
   have ho:=e5 (.inr rfl)
   rw[f1,Nat.zero_mul]at ho
   subst ho
   rcases DOwn_iff.1 p3 with⟨q2,_⟩ |⟨g,cap,cur,L',q2,q3,q4⟩
   ·rw[e4]at q2;cases q2
   ·rw[e4]at q2
    injection q2 with q5 q6 q7
    cases q5
    refine⟨ver,_,k,l,l',h1,.d,.d,by rw[<-q6,f2],fun σ=> .inr ⟨bb,cap,cur,L',e2,q3,q4⟩,fun b2 hb cu E fz cu' E' fz' w1 w2=> ?_⟩
    rw[e2]at hb;cases hb
    obtain⟨fz2,q8,_⟩:=q4.2.1
    rw[q8]at w2;cases w2
    rw[q4.2.2.2.2.1,<-q7,f3 _ _ _ w1]
theorem eCallX_sound {E:World->Prop} {pn:TypeId->Option Nat} {mvs:FuncId->List Bool} {ln:FuncId->Bool} (hE:X.E=E) (hG:X.G=G) {ats:List TypeId} (hexec:(execOp a.eval o).run P w=(callFunc f us.toArray).run P w) (hg:Good X nt Z a w)
  (hps:∀J N,St X Z w a.tmps J N->All2 (ValC (Fz X w N Z.s) w J Z.s) ps us)
  (h:(eCallX pn mvs ln o f ps ats).Run (PCalls P G E) Z.s v s' r wr):o.wp P a w (fun a' w'=>Good X nt ⟨putE o.dst v Z.t,s'⟩ a' w') Q:=by
 obtain⟨hs,hd,J,N,hst⟩:=id hg
 have hargs:=hps J N hst
 unfold eCallX at h
 obtain⟨em0,s1,r1,w1,r2,w2,k1,h⟩:=bind_run h
 obtain rfl:=scanA_run k1
 obtain⟨em,s2,r3,w3,r4,w4,k2,h⟩:=bind_run h
 obtain rfl:=scanE_run k2
 obtain⟨⟨qs,mA,pk⟩,s3,r5,w5,r6,w6,k3,h⟩:=bind_run h
 let S1:Nat->Prop:=fun b=>Fz X w N Z.s b∨∃id∈pk,b∈N id
 have hAH:AH X Z w J N S1 pk:=⟨fun b hb=> .inl hb,fun id hi b hb=> .inr ⟨id,hi,hb⟩⟩
 obtain⟨⟨xs,ms⟩,s4,r7,w7,r8,w8,k4,h⟩:=bind_run h
 have hHE:HE em J Z.s (extB (em.map (locF J))) (extS xs):=HE.of
 obtain⟨rfl,a1,a2,a3,a4⟩:=argA_spec (S':=S1) hst hHE hargs k3 hAH
 obtain⟨rfl,b1,b2,b3,b4,b5,b6⟩:=extL_spec (S':=S1) hst hHE hAH.f k4
 simp only at h
 split at h
 case h_1=>exact h.elim
 rename_i hchk
 rw[Bool.and_eq_true]at hchk
 have hnd:=nodupB_spec hchk.1
 have hdj:=disjL_spec hchk.2
 obtain⟨r0,ys,hPC,h⟩:=h
 have hemnd:(em.map (·.1)).Nodup:=(List.nodup_append.1 hnd).1
 have hlive:∀id∈em.map (·.1)++(mA++ms.flatten),∃b,(Z.s id).blk=some b:=fun id hid=>by
  rcases List.mem_append.1 hid with hid|hid
  ·obtain⟨⟨i,ver,j,n⟩,hm,rfl⟩:=List.mem_map.1 hid
   obtain⟨cs,e,_⟩:=b3 _ _ _ _ hm
   exact⟨_,by rw[e]⟩
  ·obtain⟨ver,blk,k,l,e,_⟩:=(a2.app b2) id hid
   exact⟨_,by rw[e]⟩
 have hF1:(em.map (locF J)).map (·.1)++mA.flatMap N++(ms.map fun m=>m.flatMap N).flatten=(em.map (·.1)++(mA++ms.flatten)).flatMap N:=by
  rw[locs_fst hst b3,flat_map,List.flatMap_append,List.flatMap_append,List.append_assoc]
 have hFnd:((em.map (·.1)++(mA++ms.flatten)).flatMap N).Nodup:=flatMap_nodup hst hnd hlive
 have hFlt:∀b∈(em.map (·.1)++(mA++ms.flatten)).flatMap N,G<=b/\b<w.heap.size:=fun b hb=>by
  obtain⟨id,hid,hbN⟩:=List.mem_flatMap.1 hb
  obtain⟨bl,hbl⟩:=hlive id hid
  refine⟨?_,hst.lt id bl hbl b hbN⟩
  rw[<-hG]
  rcases hst.new id bl hbl b hbN with h|h
  ·exact X.hG b h
  ·exact Nat.le_trans X.hw h
 have hxpk:∀id∈pk,id∉em.map (·.1)++(mA++ms.flatten):=fun id hid hm=>by
  rcases List.mem_append.1 hm with hm|hm
  ·obtain⟨⟨i,ver,j,n⟩,hm2,rfl⟩:=List.mem_map.1 hm
   obtain⟨cs,e,_⟩:=b3 _ _ _ _ hm2
   obtain⟨ver',blk,k,l,e',hw⟩:=a3 _ hid
   rw[e]at e';cases e';cases hw
  ·exact hdj id hid hm
 have hS1:∀b,S1 b->b<w.heap.size/\b∉(em.map (·.1)++(mA++ms.flatten)).flatMap N:=fun b hb=>by
  rcases hb with hb|⟨id,hid,hbN⟩
  ·refine⟨hb.1,fun hm=> ?_⟩
   obtain⟨id,hid,hbN⟩:=List.mem_flatMap.1 hm
   obtain⟨bl,hbl⟩:=hlive id hid
   exact hb.2.1 ⟨id,bl,hbl,hbN⟩
  ·obtain⟨ver,blk,k,l,e,_⟩:=a3 id hid
   refine⟨hst.lt id _ (by rw[e]) b hbN,fun hm=> ?_⟩
   obtain⟨id',hid',hbN'⟩:=List.mem_flatMap.1 hm
   obtain⟨bl,hbl⟩:=hlive id' hid'
   exact hst.disj id id' _ _ (by rw[e]) hbl (fun e=>hxpk id hid (e▸hid')) b hbN hbN'
 obtain⟨hylen,hPC⟩:=hPC
 have hcall:=hPC w S1 us (em.map (locF J)) (mA.flatMap N) (ms.map fun m=>m.flatMap N) (by rw[<-hG];exact Nat.le_trans X.hw hst.frm.size) (by rw[<-hE];exact hst.env) (by simp[b1]) (by rw[b4,b1]) (by rw[hF1];exact hFnd) (by rw[hF1];exact hFlt) (by rw[hF1];exact hS1) a1 b6
 rw[hF1]at hcall
 have hlens:xs.map List.length=em.map (·.2.2.2):=by
  apply List.ext_getElem?
  intro i
  rw[List.getElem?_map,List.getElem?_map]
  by_cases hi:i<em.length
  ·have e1:em[i]?=some em[i]:=by simp[hi]
   have e2:xs[i]?=some (xs[i]'(by omega)):=by simp[b1,hi]
   rw[e1,e2]
   simp only[Option.map_some]
   rw[b5 i _ _ e1 e2]
  ·rw[List.getElem?_eq_none (by omega),List.getElem?_eq_none (by omega)];rfl
 rw[hlens]at hcall
 have hyl:ys.length=em.length:=by have:=congrArg List.length hylen;simp only[List.length_map]at this;rw[this,b1]
 have hyn:∀(e:Nat) (x:Nat×Nat×Nat×Nat) (cs:List PV),em[e]?=some x->ys[e]?=some cs->cs.length=x.2.2.2:=fun e x cs he hc=>by
  have h1:(ys.map List.length)[e]?=(em.map (·.2.2.2))[e]?:=by rw[hylen,hlens]
  rw[List.getElem?_map,List.getElem?_map,he,hc]at h1
  simpa using h1
 have hLe:mA.flatMap N++(ms.map fun m=>m.flatMap N).flatten=(mA++ms.flatten).flatMap N:=by rw[flat_map,List.flatMap_append]
 have core:∀(w':World) (Lr:List Nat) (Le':List (List Nat)) (rr:PV) (bs:List PV) (gs:List Value) (Lg:List Nat) (u:Value) (D:List Nat) (R:Ren) {r9 w9:List Nat},(∀id∈D,99<=id)->(∀id∈mA,id∈D∨id∈R.map (·.1))->(∀id∈D,id∈mA++ms.flatten∨((callFz rr ys||bs.any fzS)=true/\id∈pk))->(∀id∈ms.flatten,id∈D)->((callFz rr ys||bs.any fzS)=true->∀id∈pk,id∈D)->
   Le'.length=xs.length->((em.map (locF J)).map (·.1)++(Lr++Lg)++Le'.flatten).Nodup->
   (∀b∈(Lr++Lg)++Le'.flatten,(b∈mA.flatMap N++(ms.map fun m=>m.flatMap N).flatten∨w.heap.size<=b)/\b<w'.heap.size)->
   OwnV (fun b=>(S1 b∨b∈mA.flatMap N++(ms.map fun m=>m.flatMap N).flatten∨w.heap.size<=b)/\b<w'.heap.size/\b∉(em.map (locF J)).map (·.1)++(Lr++Lg)++Le'.flatten) w' (extB (em.map (locF J))) (extS ys) rr u Lr->
   (∀(j:Nat) p cs L,(em.map (locF J))[j]?=some p->ys[j]?=some cs->Le'[j]?=some L->BoxO (fun b=>(S1 b∨b∈mA.flatMap N++(ms.map fun m=>m.flatMap N).flatten∨w.heap.size<=b)/\b<w'.heap.size/\b∉(em.map (locF J)).map (·.1)++(Lr++Lg)++Le'.flatten) w' (extB (em.map (locF J))) (extS ys) p cs L)->
   Stay w w' ((em.map (·.1)++(mA++ms.flatten)).flatMap N) (em.map (locF J)) (em.map (·.2.2.2))->
   R.flatMap (·.2.2)=Lg->(R.map (·.1)).Sublist mA->(∀id∈R.map (·.1),id∉D)->
   (∀S':Nat->Prop,(∀b,S' b->b<w'.heap.size)->((callFz rr ys||bs.any fzS)=true->∀b,((S1 b∨b∈mA.flatMap N++(ms.map fun m=>m.flatMap N).flatten∨w.heap.size<=b)/\b<w'.heap.size/\b∉(em.map (locF J)).map (·.1)++(Lr++Lg)++Le'.flatten)->S' b)->∀id b L,(id,b,L)∈R->∃ver blk k l l',Z.s id=⟨ver,some blk⟩/\IsRw blk k l/\IsRw b k l'/\l'.length=l.length/\(∀σ,BlkC S' w' J σ L id b)/\∀bb,J id=some (bb,0)->∀cur E fz cur' E' fz',w.heap[bb]?=some (Obj.cells cur E fz)->w'.heap[bb]?=some (Obj.cells cur' E' fz')->cur'.size=cur.size)->
   ((openR (resId o) rr).bind fun v=>backL em (resId o+500000) em ys (.ret v)).Run (PCalls P G E) (renS R (killS em (dropS D Z.s))) v s' r9 w9->Good X nt ⟨putE o.dst v Z.t,s'⟩ (a.put o.dst u) w':=by
  intro w' Lr Le' rr bs gs Lg u D R r9 w9 hD99 hmD hDm hmsD hpkD hl hnd' hLr hown hbox hstay hRL hRsub hRD hRok h
  obtain⟨v0,s5,r11,w11,r12,w12,k5,h⟩:=bind_run h
  let S':Nat->Prop:=fun b=>((Fz X w N Z.s b∨((callFz rr ys||bs.any fzS)=true/\∃id∈pk,b∈N id))∨b∈mA.flatMap N++(ms.map fun m=>m.flatMap N).flatten∨w.heap.size<=b)/\b<w'.heap.size/\b∉(em.map (locF J)).map (·.1)++(Lr++Lg)++Le'.flatten
  have hown2:OwnV S' w' (extB (em.map (locF J))) (extS ys) rr u Lr/\(∀(j:Nat) p cs L,(em.map (locF J))[j]?=some p->ys[j]?=some cs->Le'[j]?=some L->BoxO S' w' (extB (em.map (locF J))) (extS ys) p cs L):=by
   cases hfz:(callFz rr ys||bs.any fzS)with
   | true=>
    have e:S'=fun b=>(S1 b∨b∈mA.flatMap N++(ms.map fun m=>m.flatMap N).flatten∨w.heap.size<=b)/\b<w'.heap.size/\b∉(em.map (locF J)).map (·.1)++(Lr++Lg)++Le'.flatten:=by
     funext b
     simp only[S',S1,hfz,true_and]
    rw[e]
    exact⟨hown,hbox⟩
   | false=>
    rw[Bool.or_eq_false_iff]at hfz
    have hfz:=hfz.1
    unfold callFz at hfz
    rw[Bool.or_eq_false_iff]at hfz
    refine⟨fzR_spec hfz.1 hown,fun j p cs L h1 h2 h3=> ?_⟩
    obtain⟨cur,E0,us0,c1,c2,c3,c4⟩:=hbox j p cs L h1 h2 h3
    refine⟨cur,E0,us0,c1,c2,c3,All3.imp (B:=fzS) (fun p u L hb h=>fzS_spec hb h) ?_ c4⟩
    have:=List.any_eq_false.1 hfz.2 cs (qM1 h2)
    simpa using this
  have hRm:∀id∈R.map (·.1),id∈mA:=fun id h=>hRsub.mem h
  have hRok2:=hRok S' (fun b hb=>hb.2.1) (fun hfz b hb=>by simp only[S',hfz,true_and];exact hb)
  have hD:∀id∈D,99<=id/\∃ver blk k l,Z.s id=⟨ver,some blk⟩/\IsRw blk k l:=fun id hid=>by
   refine⟨hD99 id hid,?_⟩
   rcases hDm id hid with h|⟨_,h⟩
   ·exact(a2.app b2) id h
   ·exact a3 id h
  have hDx:∀id,id∈em.map (·.1)->id∉D/\id∉R.map (·.1):=fun id h1=>by
   obtain⟨⟨i,ver,j,n⟩,hm,rfl⟩:=List.mem_map.1 h1
   obtain⟨cs,e,_⟩:=b3 _ _ _ _ hm
   refine⟨fun h2=> ?_,fun h2=> ?_⟩
   ·obtain⟨_,ver',blk,k,l,e',hw⟩:=hD _ h2
    rw[e]at e';cases e';cases hw
   ·obtain⟨ver',blk,k,l,e',hw⟩:=a2 _ (hRm _ h2)
    rw[e]at e';cases e';cases hw
  have hσl:∀id bl,(renS R (killS em (dropS D Z.s)) id).blk=some bl->id∉D/\∃b,(Z.s id).blk=some b:=fun id bl hb=>by
   by_cases hr:id∈R.map (·.1)
   ·obtain⟨ver',blk,k,l,e',_⟩:=a2 _ (hRm _ hr)
    exact⟨hRD id hr,blk,by rw[e']⟩
   rw[renS_same hr]at hb
   by_cases hx:id∈em.map (·.1)
   ·exact⟨(hDx id hx).1,hlive id (List.mem_append_left _ hx)⟩
   ·rw[killS_same hx]at hb
    by_cases hd2:id∈D
    ·rw[dropS_mem hd2]at hb;cases hb
    ·rw[dropS_same hd2]at hb;exact⟨hd2,bl,hb⟩
  have hNl:∀id bl x,(renS R (killS em (dropS D Z.s)) id).blk=some bl->x∈renN R N id->x∈Lg∨(id∉R.map (·.1)/\x∈N id):=fun id bl x hb hx=>by
   by_cases hr:id∈R.map (·.1)
   ·obtain⟨⟨i,b0,L⟩,hm,rfl⟩:=List.mem_map.1 hr
    have hn:(R.map (·.1)).Nodup:=hRsub.nodup (List.nodup_append.1 (List.nodup_append.1 hnd).2.1).1
    rw[renN_mem hn hm]at hx
    exact .inl (by rw[<-hRL];exact List.mem_flatMap.2 ⟨_,hm,hx⟩)
   ·rw[renN_same hr]at hx
    exact .inr ⟨hr,hx⟩
  have hSS:∀b,Fz X w N Z.s b->S' b:=fun b hb=>by
   have h0:=hS1 b (.inl hb)
   refine⟨.inl (.inl hb),Nat.lt_of_lt_of_le hb.1 hstay.size,fun hm=> ?_⟩
   rw[List.append_assoc]at hm
   rcases List.mem_append.1 hm with hm|hm
   ·rw[locs_fst hst b3]at hm
    exact h0.2 (by rw[List.flatMap_append];exact List.mem_append_left _ hm)
   ·rcases(hLr b hm).1 with h1|h1
    ·rw[hLe]at h1
     exact h0.2 (by rw[List.flatMap_append];exact List.mem_append_right _ h1)
    ·have:=hb.1;omega
  have hdisj:∀x,(x∈mA.flatMap N++(ms.map fun m=>m.flatMap N).flatten∨w.heap.size<=x)->∀id bl,(renS R (killS em (dropS D Z.s)) id).blk=some bl->id∉R.map (·.1)->x∉N id:=fun x hx id bl hb hr hxn=>by
   obtain⟨h3,bl0,h4⟩:=hσl id bl hb
   rcases hx with h1|h1
   ·rw[hLe]at h1
    obtain⟨id',hid',hbN⟩:=List.mem_flatMap.1 h1
    obtain⟨ver,blk,k,l,e,_⟩:=(a2.app b2) id' hid'
    refine hst.disj id' id _ _ (by rw[e]) h4 (fun e2=> ?_) x hbN hxn
    subst e2
    rcases List.mem_append.1 hid' with hid'|hid'
    ·exact(hmD _ hid').elim h3 hr
    ·exact h3 (hmsD _ hid')
   ·have:=hst.lt id bl0 h4 x hxn;omega
  have hSf:∀b,S' b->Fz X w' (renN R N) (renS R (killS em (dropS D Z.s))) b:=by
   rintro b ⟨hb,hlt,hnm⟩
   refine⟨hlt,?_,?_⟩
   ·rintro⟨id,bl,h1,h2⟩
    rcases hNl id bl b h1 h2 with h2|⟨hnr,h2⟩
    ·exact hnm (List.mem_append_left _ (List.mem_append_right _ (List.mem_append_right _ h2)))
    obtain⟨h3,bl0,h4⟩:=hσl id bl h1
    rcases hb with (hb|⟨hfz,id',hid',hb⟩)|hb
    ·exact hb.2.1 ⟨id,bl0,h4,h2⟩
    ·obtain⟨ver,blk,k,l,e,_⟩:=a3 id' hid'
     have hne:id'≠id:=fun e2=>h3 (by rw[<-e2];exact hpkD hfz id' hid')
     exact hst.disj id' id _ _ (by rw[e]) h4 hne b hb h2
    ·exact hdisj b hb id bl h1 hnr h2
   ·rcases hb with (hb|⟨hfz,id',hid',hb⟩)|hb|hb
    ·exact hb.2.2
    ·obtain⟨ver,blk,k,l,e,_⟩:=a3 id' hid'
     exact .inr (hst.new id' _ (by rw[e]) b hb)
    ·rw[hLe]at hb
     obtain⟨id',hid',hbN⟩:=List.mem_flatMap.1 hb
     obtain⟨ver,blk,k,l,e,_⟩:=(a2.app b2) id' hid'
     exact .inr (hst.new id' _ (by rw[e]) b hbN)
    ·exact .inr (.inr (Nat.le_trans hst.frm.size hb))
  have hsub:∀x∈Lg,x∈(Lr++Lg)++Le'.flatten:=fun x hx=>List.mem_append_left _ (List.mem_append_right _ hx)
  rw[List.append_assoc]at hnd'
  obtain⟨n1,n2,n3⟩:=List.nodup_append.1 hnd'
  obtain⟨n4,n5,n6⟩:=List.nodup_append.1 n2
  obtain⟨n7,n8,n9⟩:=List.nodup_append.1 n4
  obtain⟨T1,st1⟩:=called (D:=D) (M:=mA++ms.flatten) (R:=R) hst b3 (fun id hid=>(a2.app b2) id hid) hD (fun id hid=>by
   rcases List.mem_append.1 hid with h|h
   ·exact hmD id h
   ·exact .inl (hmsD id h)) hemnd hRok2 (hRsub.nodup (List.nodup_append.1 (List.nodup_append.1 hnd).2.1).1) (fun id hid=>⟨hRD id hid,fun h=>(hDx id h).2 hid⟩)
   (fun id b L hm x hx=>by
    have:=hLr x (hsub x (by rw[<-hRL];exact List.mem_flatMap.2 ⟨_,hm,hx⟩))
    rw[hLe]at this
    exact this.1.imp (fun h=>h) fun h=>⟨h,this.2⟩) (by rw[hRL];exact n8)
   (fun x hx id hid hxn=>by
    rw[hRL]at hx
    have h0:x∈(em.map (locF J)).map (·.1):=by
     rw[locs_fst hst b3];exact List.mem_flatMap.2 ⟨id,hid,hxn⟩
    exact n3 x h0 x (List.mem_append_left _ (List.mem_append_right _ hx)) rfl)
   hstay hown2.2 hyl (by rw[hl,b1]) hyn hSS hSf
  have hPend:Pend X S' (renS R (killS em (dropS D Z.s))) (renN R N) (Lr++Le'.flatten):=by
   have up:∀x∈Lr++Le'.flatten,x∈(Lr++Lg)++Le'.flatten:=fun x hx=>by
    rcases List.mem_append.1 hx with hx|hx
    ·exact List.mem_append_left _ (List.mem_append_left _ hx)
    ·exact List.mem_append_right _ hx
   refine⟨?_,fun x hx hSx=>hSx.2.2 (by rw[List.append_assoc];exact List.mem_append_right _ (up x hx)),fun x hx=> ?_,fun id bl hb x hx hxn=> ?_⟩
   ·exact List.nodup_append.2 ⟨n7,n5,fun x hx y hy=>n6 x (List.mem_append_left _ hx) y hy⟩
   ·rcases(hLr x (up x hx)).1 with h1|h1
    ·rw[hLe]at h1
     obtain⟨id',hid',hbN⟩:=List.mem_flatMap.1 h1
     obtain⟨ver,blk,k,l,e,_⟩:=(a2.app b2) id' hid'
     exact hst.new id' _ (by rw[e]) x hbN
    ·exact .inr (Nat.le_trans hst.frm.size h1)
   ·rcases hNl id bl x hb hxn with h2|⟨hnr,h2⟩
    ·rcases List.mem_append.1 hx with hx|hx
     ·exact n9 x hx x h2 rfl
     ·exact n6 x (List.mem_append_right _ h2) x hx rfl
    ·exact hdisj x (hLr x (up x hx)).1 id bl hb hnr h2
  obtain⟨J2,N2,st2,T2,v2,hh2⟩:=openR_spec st1 (by unfold resId;split<;>omega) hown2.1 hPend.left k5
  have hptr:∀(e:Nat) (x:Nat×Nat×Nat×Nat) (p:Nat×Nat),em[e]?=some x->(em.map (locF J))[e]?=some p->PtrC J2 s5 x.1 x.2.1 0 x.2.2.1 (.pointer (some ⟨p.1,p.2,none⟩)):=fun e x p he hp=>by
   obtain⟨i,ver,j,n⟩:=x
   obtain⟨cs,e1,_⟩:=b3 i ver j n (qM1 he)
   obtain⟨b,off,cur,E0,q1,q2,_⟩:=hst.blk i _ (by rw[e1])
   refine T2.ptr (T1.ptr ⟨by rw[e1];exact Nat.le_refl _,.inl ⟨_,rfl⟩,fun blk hb=> ?_⟩)
   rw[e1]at hb
   cases hb
   rw[List.getElem?_map,he]at hp
   simp[locF,q1]at hp
   subst hp
   exact⟨b,off,q1,rfl⟩
  obtain⟨J3,N3,s6,r',wr',st3,T3,hr⟩:=backL_spec (fun e x u he hp=>by
   have hlt:e<em.length:=(qS1.1 he).1
   have hy:ys[e]?=some (ys[e]'(by omega)):=qE1 (by omega)
   obtain⟨_,_,hp⟩:=hp
   obtain⟨b,off,q1,q2⟩:=hp (.box (ys[e]'(by omega))) (by unfold extS;rw[hy])
   simp only[Nat.add_zero]at q2
   rw[q2]
   exact hptr e x (b,off) he q1) st2 (by unfold resId;split<;>omega) (by simp) (by rw[hl,b1]) hown2.2 (hPend.right hh2) hptr h
  obtain⟨rfl,rfl,-,-⟩:=hr
  obtain⟨st4,T4⟩:=st3.close
  exact Good.put hs hd st4 (T4.vc (T3.vc v2))
 have key:∀u w',(∃(Lr:List Nat) (Le':List (List Nat)),Le'.length=xs.length/\((em.map (locF J)).map (·.1)++Lr++Le'.flatten).Nodup/\
   (∀b∈Lr++Le'.flatten,(b∈mA.flatMap N++(ms.map fun m=>m.flatMap N).flatten∨w.heap.size<=b)/\b<w'.heap.size)/\
   OwnG (fun b=>(S1 b∨b∈mA.flatMap N++(ms.map fun m=>m.flatMap N).flatten∨w.heap.size<=b)/\b<w'.heap.size/\b∉(em.map (locF J)).map (·.1)++Lr++Le'.flatten) w' (extB (em.map (locF J))) (extS ys) (ownVals qs us) r0 u Lr/\
   (∀(j:Nat) p cs L,(em.map (locF J))[j]?=some p->ys[j]?=some cs->Le'[j]?=some L->BoxO (fun b=>(S1 b∨b∈mA.flatMap N++(ms.map fun m=>m.flatMap N).flatten∨w.heap.size<=b)/\b<w'.heap.size/\b∉(em.map (locF J)).map (·.1)++Lr++Le'.flatten) w' (extB (em.map (locF J))) (extS ys) p cs L)/\
   Stay w w' ((em.map (·.1)++(mA++ms.flatten)).flatMap N) (em.map (locF J)) (em.map (·.2.2.2)))->Good X nt ⟨putE o.dst v Z.t,s'⟩ (a.put o.dst u) w':=by
  rintro u w' ⟨Lr,Le',hl,hnd',hLr,hown,hbox,hstay⟩
  simp only at h
  have hmAnd:mA.Nodup:=(List.nodup_append.1 (List.nodup_append.1 hnd).2.1).1
  have all99:∀{D:List Nat},D.all (Nat.ble 99)=true->∀id∈D,99<=id:=fun h id hid=>Nat.le_of_ble_eq_true (List.all_eq_true.1 h id hid)
  cases hln:ln f with
  | false=>
   rw[hln]at h
   split at h
   ·rename_i e1 e2 e3;cases e3
   ·rename_i e1 e2 e3
    have hgb:gbR r0=r0/\gbB r0=[]/\OwnG (fun b=>(S1 b∨b∈mA.flatMap N++(ms.map fun m=>m.flatMap N).flatten∨w.heap.size<=b)/\b<w'.heap.size/\b∉(em.map (locF J)).map (·.1)++Lr++Le'.flatten) w' (extB (em.map (locF J))) (extS ys) (ownVals qs us) r0 u Lr=OwnV (fun b=>(S1 b∨b∈mA.flatMap N++(ms.map fun m=>m.flatMap N).flatten∨w.heap.size<=b)/\b<w'.heap.size/\b∉(em.map (locF J)).map (·.1)++Lr++Le'.flatten) w' (extB (em.map (locF J))) (extS ys) r0 u Lr:=by
     cases r0<;>first|exact⟨rfl,rfl,rfl⟩ | cases e2
    obtain⟨g1,g2,g3⟩:=hgb
    rw[g3]at hown
    rw[g1,g2]at e1 h
    obtain⟨r9,w9,h⟩:=dropL_run h
    obtain⟨r10,w10,h⟩:=killL_run h
    refine core w' Lr Le' r0 [] [] [] u _ [] (all99 e1) (fun id hid=> .inl (by simp[hid])) (fun id hid=> ?_) (fun id hid=>by simp[List.mem_flatten.1 hid]) (fun hfz id hid=>by simp only[hfz];simp[hid]) hl (by rw[List.append_nil];exact hnd') (by rw[List.append_nil];exact hLr) (by rw[List.append_nil];exact hown) (by rw[List.append_nil];exact hbox) hstay rfl (List.nil_sublist _) (fun _ h=>by cases h) (fun _ _ _ _ _ _ h=>by cases h) h
    rcases List.mem_append.1 hid with h1|h1
    ·exact .inl h1
    ·split at h1
     ·rename_i hq;exact .inr ⟨hq,h1⟩
     ·cases h1
   ·exact h.elim
  | true=>
   rw[hln]at h
   split at h
   ·rename_i e1 e2 e3
    cases r0<;>try (cases e2;done)
    rename_i r1 back
    obtain⟨L1,L2,rfl,ho1,ho2⟩:=hown
    simp only[gbR,gbB]at e1 h
    obtain⟨r9,w9,h⟩:=dropL_run h
    obtain⟨r10,w10,h⟩:=killL_run h
    have hxD:∀id∈mA,id∉([]++ms.flatten++(match callFz r1 ys||back.any fzS with
     | true=>pk
     | false=> [])):=fun id hid hm=>by
     rw[List.nil_append]at hm
     rcases List.mem_append.1 hm with hm|hm
     ·exact(List.nodup_append.1 (List.nodup_append.1 hnd).2.1).2.2 id hid id hm rfl
     ·split at hm
      ·exact hxpk id hm (List.mem_append_right _ (List.mem_append_left _ hid))
      ·cases hm
    let QQ:PV->Value->List Nat->Prop:=fun p u L=>∀S':Nat->Prop,((callFz r1 ys||back.any fzS)=true->∀b,((S1 b∨b∈mA.flatMap N++(ms.map fun m=>m.flatMap N).flatten∨w.heap.size<=b)/\b<w'.heap.size/\b∉(em.map (locF J)).map (·.1)++(L1++L2)++Le'.flatten)->S' b)->OwnS S' w' (extB (em.map (locF J))) (extS ys) p u L
    have ho3:All3 QQ back (ownVals qs us) L2:=by
     cases hfz:(callFz r1 ys||back.any fzS)with
     | true=>exact All3.mono (fun p u L _ h S' hS'=>OwnS.up h (hS' hfz)) ho2
     | false=>
      rw[Bool.or_eq_false_iff]at hfz
      exact All3.imp (B:=fzS) (fun p u L hb h S' _=>fzS_spec hb h) hfz.2 ho2
    obtain⟨R,r',wr',q1,q2,q3,q4⟩:=backR_run h ho3 hmAnd
    have hsame:∀id∈mA,killS em (dropS ([]++ms.flatten++(match callFz r1 ys||back.any fzS with
     | true=>pk
     | false=> [])) Z.s) id=Z.s id:=fun id hid=>by
     rw[killS_same (fun hm=>(List.nodup_append.1 hnd).2.2 id hm id (List.mem_append_left _ hid) rfl),dropS_same (hxD id hid)]
    have hren:∀(S':Nat->Prop),((callFz r1 ys||back.any fzS)=true->∀b,((S1 b∨b∈mA.flatMap N++(ms.map fun m=>m.flatMap N).flatten∨w.heap.size<=b)/\b<w'.heap.size/\b∉(em.map (locF J)).map (·.1)++(L1++L2)++Le'.flatten)->S' b)->All2 (RenOf (OwnS S' w' (extB (em.map (locF J))) (extS ys)) Z.s) R (ownVals qs us):=fun S' hS'=>by
     have key:∀(R:Ren) (gs:List Value),(∀x∈R,x.1∈mA)->All2 (RenOf QQ (killS em (dropS ([]++ms.flatten++(match callFz r1 ys||back.any fzS with
      | true=>pk
      | false=> [])) Z.s))) R gs->All2 (RenOf (OwnS S' w' (extB (em.map (locF J))) (extS ys)) Z.s) R gs:=by
      intro R
      induction R with
      | nil=>intro gs _ h;cases gs<;>exact h
      | cons x R ih=>
       intro gs hx h
       cases gs with
       | nil=>exact h
       | cons g gs=>
        refine⟨?_,ih gs (fun y hy=>hx y (List.mem_cons_of_mem _ hy)) h.2⟩
        have h0:=h.1
        unfold RenOf at h0⊢
        rw[hsame _ (hx x (List.mem_cons_self ..))]at h0
        rcases h0 with⟨a1,a2,a3,a4,a5,a6,a7⟩ |⟨a1,a2,a3,a4,a5,a6,a7⟩
        ·exact .inl ⟨a1,a2,a3,a4,a5,a6,a7 S' hS'⟩
        ·exact .inr ⟨a1,a2,a3,a4,a5,a6,a7 S' hS'⟩
     exact key _ _ (fun x hx=>by rw[<-q1];exact List.mem_map.2 ⟨x,hx,rfl⟩) q4
    refine core w' L1 Le' r1 back (ownVals qs us) L2 u _ R (all99 e1) (fun id hid=> .inr (by rw[q1];exact hid)) (fun id hid=> ?_) (fun id hid=>by simp[List.mem_flatten.1 hid]) (fun hfz id hid=>by simp only[hfz];simp[hid]) hl hnd' hLr ho1 hbox hstay q3 (by rw[q1];exact List.Sublist.refl _) (fun id hid=>by rw[q1]at hid;exact hxD id hid) (fun S' _ hS'=>ren_ok (t:=Z.t) hst a4 (hren S' hS') q1) q2
    rw[List.nil_append]at hid
    rcases List.mem_append.1 hid with h1|h1
    ·exact .inl (List.mem_append_right _ h1)
    ·split at h1
     ·rename_i hq;exact .inr ⟨hq,h1⟩
     ·cases h1
   ·rename_i e1 e2 e3;cases e3
   ·exact h.elim
 unfold Oper.wp
 rw[hexec]
 unfold Arrive at hcall
 split at hcall
 ·rename_i u w' hrun
  rw[hrun]
  obtain⟨u',Lr,Le',e,h1,h2,h3,h4,h5,h6⟩:=hcall
  cases e
  exact key _ _ ⟨Lr,Le',h1,h2,h3,h4,h5,h6⟩
 ·rename_i f' ys' w' hrun
  rw[hrun]
  rw[Oper.upon_enter]
  refine Calls.mono hcall fun e w'' hR=> ?_
  obtain⟨u',Lr,Le',rfl,h1,h2,h3,h4,h5,h6⟩:=hR
  exact key _ _ ⟨Lr,Le',h1,h2,h3,h4,h5,h6⟩
 ·exact hcall.elim
end
open Go.RowKit
def capK (s:Sto):PV->Bool
 | .ptr e 0 0 0=>match s e with
  | ⟨0,some (.box _)⟩=>true
  | _=>false
 | _=>false
def closeK (s:Sto):PV->Option (PV×List Nat×List Nat)
 | .fn f (c::cs)=>(match(c::cs).all (capK s)with
  | true=>some (.fn f (c::cs),[],[])
  | false=>none)
 | p=>closeS s p
def closeLK (s:Sto):List PV->Option (List PV×List Nat×List Nat)
 | []=>some ([],[],[])
 | p::ps=>match closeK s p,closeLK s ps with
  | some (q,a,b),some (qs,c,d)=>some (q::qs,a++c,b++d)
  | _,_=>none
def close1K (s:Sto):PV->Option (PV×List Nat×List Nat)
 | .agg cs=>match closeLK s cs with
  | some (qs,a,b)=>some (.agg qs,a,b)
  | none=>none
 | p=>closeS s p
def close1LK (s:Sto):List PV->Option (List PV×List Nat×List Nat)
 | []=>some ([],[],[])
 | p::ps=>match close1K s p,close1LK s ps with
  | some (q,a,b),some (qs,c,d)=>some (q::qs,a++c,b++d)
  | _,_=>none
section
variable {X:Ctx} {nt:Nat} {Z:Env} {w:World}
def HxK (Z:Env) (J J':Nat->Option (Nat×Nat)) (σ':Sto):Prop:=∀(e:Nat) cs u,Z.s e=⟨0,some (.box cs)⟩->PtrC J Z.s e 0 0 0 u->PtrC J' σ' e 0 0 0 u
theorem capK_spec (hx:HxK Z J J' σ') (h:capK Z.s p=true) (hv:Val0 S w J Z.s p u):Val0 S' w J' σ' p u:=by
 unfold capK at h
 split at h
 ·rename_i e
  split at h
  ·rename_i cs he
   exact hx e cs u he hv
  ·cases h
 ·cases h
theorem capsK_spec {J J':Nat->Option (Nat×Nat)} {σ':Sto} (hx:HxK Z J J' σ') {S S':Nat->Prop}:∀{ps:List PV} {us:List Value},ps.all (capK Z.s)=true->All2 (Val0 S w J Z.s) ps us->All2 (Val0 S' w J' σ') ps us
 | [],us,_,h=>by cases us<;>exact h
 | p::ps,[],_,h=>h.elim
 | p::ps,u::us,hc,h=>by
  rw[List.all_cons,Bool.and_eq_true]at hc
  exact⟨capK_spec hx hc.1 h.1,capsK_spec hx hc.2 h.2⟩
theorem closeK_spec {tm:Array Value} (h:St X Z w tm J N) (hx:HxK Z J J' σ') (hF:∀b,Fz X w N Z.s b->S' b) (hv:ValS (Fz X w N Z.s) w J Z.s p u) (hc:closeK Z.s p=some (q,A,B))
  (hB:∀id∈B,∀b∈N id,S' b):(∀id∈A,∃blk,(Z.s id).blk=some blk)/\OwnS S' w J' σ' q u (A.map N).flatten:=by
 unfold closeK at hc
 split at hc
 ·split at hc
  ·rename_i hk
   cases hc
   obtain⟨us,e,hv⟩:=hv
   exact⟨by simp,rfl,us,e,capsK_spec hx hk hv⟩
  ·cases hc
 ·exact closeS_spec h hF hv hc hB
theorem closeLK_spec {J:Nat->Option (Nat×Nat)} {N:Nat->List Nat} {tm:Array Value} {S':Nat->Prop} {J':Nat->Option (Nat×Nat)} {σ':Sto} (h:St X Z w tm J N) (hx:HxK Z J J' σ') (hF:∀b,Fz X w N Z.s b->S' b) :
  ∀{ps qs:List PV} {us:List Value} {A B:List Nat},All2 (ValS (Fz X w N Z.s) w J Z.s) ps us->closeLK Z.s ps=some (qs,A,B)->(∀id∈B,∀b∈N id,S' b)->(∀id∈A,∃blk,(Z.s id).blk=some blk)/\All3 (OwnS S' w J' σ') qs us (A.map N).flatten
 | [],qs,[],A,B,_,hc,_=>by cases hc;exact⟨by simp,rfl⟩
 | p::ps,qs,u::us,A,B,⟨h1,h2⟩,hc,hB=>by
  unfold closeLK at hc
  split at hc
  ·rename_i q a b qs' c d e1 e2
   cases hc
   obtain⟨k1,k2⟩:=closeK_spec h hx hF h1 e1 (fun id hid=>hB id (List.mem_append.2 (.inl hid)))
   obtain⟨k3,k4⟩:=closeLK_spec h hx hF h2 e2 (fun id hid=>hB id (List.mem_append.2 (.inr hid)))
   refine⟨fun id hid=>(List.mem_append.1 hid).elim (k1 id) (k3 id),_,_,?_,k2,k4⟩
   rw[List.map_append,List.flatten_append]
  ·cases hc
 | [],_,_::_,_,_,h,_,_=>h.elim
 | _::_,_,[],_,_,h,_,_=>h.elim
theorem close1K_spec {tm:Array Value} (h:St X Z w tm J N) (hx:HxK Z J J' σ') (hF:∀b,Fz X w N Z.s b->S' b) (hv:ValC (Fz X w N Z.s) w J Z.s p u) (hc:close1K Z.s p=some (q,A,B))
  (hB:∀id∈B,∀b∈N id,S' b):(∀id∈A,∃blk,(Z.s id).blk=some blk)/\Own1 S' w J' σ' q u (A.map N).flatten:=by
 by_cases ha:∃cs,p= .agg cs
 ·obtain⟨cs,rfl⟩:=ha
  obtain⟨us,rfl,hv⟩:=hv
  unfold close1K at hc
  split at hc
  ·rename_i cs' e
   cases e
   split at hc
   ·rename_i qs a b e
    cases hc
    obtain⟨k1,k2⟩:=closeLK_spec h hx hF hv e hB
    exact⟨k1,us,rfl,k2⟩
   ·cases hc
  ·rename_i hne;exact absurd rfl (hne cs)
 ·refine close1_spec h hF hv ?_ hB
  rw[show close1 Z.s p=close1K Z.s p from by cases p<;>first|rfl|exact absurd ⟨_,rfl⟩ ha]
  exact hc
theorem close1LK_spec {J:Nat->Option (Nat×Nat)} {N:Nat->List Nat} {tm:Array Value} {S':Nat->Prop} {J':Nat->Option (Nat×Nat)} {σ':Sto} (h:St X Z w tm J N) (hx:HxK Z J J' σ') (hF:∀b,Fz X w N Z.s b->S' b) :
  ∀{ps qs:List PV} {us:List Value} {A B:List Nat},All2 (ValC (Fz X w N Z.s) w J Z.s) ps us->close1LK Z.s ps=some (qs,A,B)->(∀id∈B,∀b∈N id,S' b)->(∀id∈A,∃blk,(Z.s id).blk=some blk)/\All3 (Own1 S' w J' σ') qs us (A.map N).flatten
 | [],qs,[],A,B,_,hc,_=>by cases hc;exact⟨by simp,rfl⟩
 | p::ps,qs,u::us,A,B,⟨h1,h2⟩,hc,hB=>by
  unfold close1LK at hc
  split at hc
  ·rename_i q a b qs' c d e1 e2
   cases hc
   obtain⟨k1,k2⟩:=close1K_spec h hx hF h1 e1 (fun id hid=>hB id (List.mem_append.2 (.inl hid)))
   obtain⟨k3,k4⟩:=close1LK_spec h hx hF h2 e2 (fun id hid=>hB id (List.mem_append.2 (.inr hid)))
   refine⟨fun id hid=>(List.mem_append.1 hid).elim (k1 id) (k3 id),_,_,?_,k2,k4⟩
   rw[List.map_append,List.flatten_append]
  ·cases hc
 | [],_,_::_,_,_,h,_,_=>h.elim
 | _::_,_,[],_,_,h,_,_=>h.elim
end
def NoBox (s:Sto) (l:List Nat):Prop:=∀id∈l,∀cs,(s id).blk≠some (.box cs)
theorem NoBox.app {a b:List Nat} (h1:NoBox s a) (h2:NoBox s b):NoBox s (a++b):=fun id hid=>(List.mem_append.1 hid).elim (h1 id) (h2 id)
theorem closeS_nb (h:closeS s p=some (q,A,B)):NoBox s A/\NoBox s B:=by
 have nl:NoBox s []:=fun _ h=>by cases h
 have nb:∀{id:Nat} {v:Nat} {blk:Blk},s id=⟨v,some blk⟩->(∀cs,blk≠ .box cs)->NoBox s [id]:=fun hs hb i hi cs e=>by
  rw[List.mem_singleton.1 hi,hs]at e;cases e;exact hb _ rfl
 unfold closeS at h
 repeat' split at h
 all_goals first
  | (cases h;done)
  | (cases h;exact⟨nl,nl⟩)
  | (rename_i hs _;cases h;exact⟨nb (by assumption) (by intro _ e;cases e),nl⟩)
  | (cases h;exact⟨nb (by assumption) (by intro _ e;cases e),nl⟩)
  | (cases h;exact⟨nl,nb (by assumption) (by intro _ e;cases e)⟩)
theorem closeL_nb {s:Sto}:∀{ps qs:List PV} {A B:List Nat},closeL s ps=some (qs,A,B)->NoBox s A/\NoBox s B
 | [],qs,A,B,h=>by cases h;exact⟨(fun _ h=>by cases h),(fun _ h=>by cases h)⟩
 | p::ps,qs,A,B,h=>by
  unfold closeL at h
  split at h
  ·rename_i q a b qs' c d e1 e2
   cases h
   obtain⟨h1,h2⟩:=closeS_nb e1
   obtain⟨h3,h4⟩:=closeL_nb e2
   exact⟨h1.app h3,h2.app h4⟩
  ·cases h
def LiveNb (s:Sto) (A B:List Nat):Prop:=(LiveL s A/\LiveL s B)/\NoBox s A/\NoBox s B
theorem LiveNb.nil {s:Sto}:LiveNb s [] []:=⟨⟨LiveL.nil,LiveL.nil⟩,(fun _ h=>by cases h),(fun _ h=>by cases h)⟩
theorem LiveNb.app {s:Sto} {A B C D:List Nat} (h:LiveNb s A B) (k:LiveNb s C D):LiveNb s (A++C) (B++D):=⟨⟨h.1.1.app k.1.1,h.1.2.app k.1.2⟩,h.2.1.app k.2.1,h.2.2.app k.2.2⟩
theorem closeS_ln (h:closeS s p=some (q,A,B)):LiveNb s A B:=⟨closeS_live h,closeS_nb h⟩
theorem closeK_ln (h:closeK s p=some (q,A,B)):LiveNb s A B:=by
 unfold closeK at h
 split at h
 ·split at h
  ·cases h;exact LiveNb.nil
  ·cases h
 ·exact closeS_ln h
theorem closeLK_ln {s:Sto}:∀{ps qs:List PV} {A B:List Nat},closeLK s ps=some (qs,A,B)->LiveNb s A B
 | [],qs,A,B,h=>by cases h;exact LiveNb.nil
 | p::ps,qs,A,B,h=>by
  unfold closeLK at h
  split at h
  ·rename_i q a b qs' c d e1 e2
   cases h
   exact(closeK_ln e1).app (closeLK_ln e2)
  ·cases h
theorem close1K_ln (h:close1K s p=some (q,A,B)):LiveNb s A B:=by
 unfold close1K at h
 split at h
 ·split at h
  ·rename_i qs a b e
   cases h
   exact closeLK_ln e
  ·cases h
 ·exact closeS_ln h
theorem close1LK_ln {s:Sto}:∀{ps qs:List PV} {A B:List Nat},close1LK s ps=some (qs,A,B)->LiveNb s A B
 | [],qs,A,B,h=>by cases h;exact LiveNb.nil
 | p::ps,qs,A,B,h=>by
  unfold close1LK at h
  split at h
  ·rename_i q a b qs' c d e1 e2
   cases h
   exact(close1K_ln e1).app (close1LK_ln e2)
  ·cases h
open Go.RowKit
def opnP (id:Nat):PV->PV
 | .row true k l=> .ref id 1 0 l.length true
 | .drow k l=> .ref (id+1000000000) 1 0 l.length true
 | p=>p
def opnPB (id:Nat) (p:PV) (s:Sto):Sto:=match p with
 | .row true k l=>upd s id ⟨1,some (.rowb k l)⟩
 | .drow k l=>upd s (id+1000000000) ⟨1,some (.rowd k l)⟩
 | _=>s
def opnL (id:Nat):List PV->List PV
 | []=> []
 | p::ps=>opnP id p::opnL (id+1) ps
def opnB (id:Nat):List PV->Sto->Sto
 | [],s=>s
 | p::ps,s=>opnB (id+1) ps (opnPB id p s)
def opn1 (i:Nat):PV->PV
 | .agg cs=> .agg (opnL (91000000+1000*i) cs)
 | p=>opnP (90000000+i) p
def opn1B (i:Nat) (p:PV) (s:Sto):Sto:=match p with
 | .agg cs=>opnB (91000000+1000*i) cs s
 | p=>opnPB (90000000+i) p s
def opnA (i:Nat):List PV->List PV
 | []=> []
 | p::ps=>opn1 i p::opnA (i+1) ps
def opnAB (i:Nat):List PV->Sto->Sto
 | [],s=>s
 | p::ps,s=>opnAB (i+1) ps (opn1B i p s)
def opnX (base e:Nat):List (List PV)->Sto->Sto
 | [],s=>s
 | cs::xs,s=>opnX (base+1000) (e+1) xs (upd (opnB base cs s) e ⟨0,some (.box (opnL base cs))⟩)
def deadX (exts:List (List PV)):Sto:=fun j=>match exts[j]? with
 | some cs=>⟨0,some (.box (List.replicate cs.length .dead))⟩
 | none=>⟨0,none⟩
def plen:PV->Nat
 | .row _ _ l=>l.length
 | .drow _ l=>l.length
 | _=>0
def own1P:PV->List PV
 | .agg cs=>cs.filter isOwnR
 | p=> [p].filter isOwnR
def ownPs:List PV->List PV
 | []=> []
 | p::ps=>own1P p++ownPs ps
def lntP (q:Nat) (p:PV):PV:=match isOwnR p with
 | true=> .ref q 0 0 (plen p) true
 | false=>p
def lntL (q:Nat):List PV->List PV
 | []=> []
 | p::ps=>lntP q p::lntL (match isOwnR p with
  | true=>q+1
  | false=>q) ps
def lnt1 (q:Nat):PV->PV
 | .agg cs=> .agg (lntL q cs)
 | p=>lntP q p
def lntA (q:Nat):List PV->List PV
 | []=> []
 | p::ps=>lnt1 q p::lntA (q+(own1P p).length) ps
def lrefs (q:Nat):List PV->List PV
 | []=> []
 | p::ps=> .ref q 0 0 (plen p) true::lrefs (q+1) ps
def lntB (p:PV):Option Blk:=match p with
 | .row true k l=>some (.rowb k l)
 | .drow k l=>some (.rowd k l)
 | _=>none
def lntS (ps:List PV):Sto:=fun j=>match Nat.ble 50 j with
 | true=>(match ps[j-50]? with
  | some p=>⟨0,lntB p⟩
  | none=>⟨0,none⟩)
 | false=>⟨0,none⟩
def lentL (ln:Bool) (args:List PV):List PV:=match ln with
 | true=>lrefs 50 (ownPs args)
 | false=> []
def gbIf (ln:Bool) (r:PV) (bT:List PV):PV:=match ln with
 | true=> .gb r bT
 | false=>r
def initX (ln:Bool) (args:List PV) (exts:List (List PV)):Env:=match ln with
 | true=>⟨fun i=>((lntA 50 args)[i]?).getD .un,lntS (ownPs args)⟩
 | false=>⟨fun i=>((opnA 0 args)[i]?).getD .un,opnX 80000000 0 exts (opnAB 0 args (deadX exts))⟩
def extC (Z:Env):Nat->Nat->Option (List (List PV))
 | _,0=>some []
 | e,n+1=>match Z.s e,extC Z (e+1) n with
  | ⟨_,some (.box cs)⟩,some l=>some (cs::l)
  | _,_=>none
def retX (nt:Nat) (rs:List ResultVar) (nx:Nat) (ls:List PV) (rT bT:List PV) (exts':List (List PV)):Exit->Env->Prop
 | .normal,Z| .ret,Z=>∃vs cs qs A B,resL nt Z rs=some vs/\extC Z 0 nx=some cs/\close1LK Z.s (vs++ .agg ls::cs.map .agg)=some (qs,A,B)/\nodupB A=true/\disjL A B=true/\All2 wk1 qs (rT++ .agg bT::exts'.map .agg)
 | _,_=>False
def cellOk:PV->Bool
 | .ref ..=>false
 | .obj _=>false
 | .agg _=>false
 | .gb _ _=>false
 | _=>true
def argOk:PV->Bool
 | .agg cs=>cs.all cellOk&&Nat.ble cs.length 1000
 | p=>cellOk p
def lendOk:PV->Bool
 | .agg cs=>cs.all fun p=>isOwnR p||noOwnS p
 | p=>isOwnR p||noOwnS p
def lentOk (ln:Bool) (args:List PV) (nx:Nat):Bool:=match ln with
 | true=>args.all lendOk&&Nat.ble (ownPs args).length 48&&Nat.beq nx 0
 | false=>args.all argOk
section
variable {P:Program} {PC:Con} {X:Ctx} {nt:Nat} {Q:Exit->Act->World->Prop} {Z:Env} {a:Act} {w:World} {o:Oper} {v:PV} {t:Nat->PV} {s s':Sto} {r wr:List Nat}
variable {J J0:Nat->Option (Nat×Nat)} {σ0:Sto} {N:Nat->List Nat} {tm:Array Value} {S:Nat->Prop}
def Rng (id n i:Nat):Prop:=(id<=i/\i<id+n)∨(id+1000000000<=i/\i<id+1000000000+n)
theorem ownS_val (T0:Tr S S w w J0 J σ0 s) (hp:isOwnR p=false) (ho:∀o,p≠ .obj o) (h:OwnS S w J0 σ0 p u L):L=[]/\ValS S w J s p u:=by
 cases p with
 | row own k l=>cases own with
  | true=>simp[isOwnR]at hp
  | false=>exact⟨h.1,T0.vs h.2⟩
 | obj o=>exact absurd rfl (ho o)
 | drow k l=>simp[isOwnR]at hp
 | v x=>exact⟨h.1,T0.vs (p:= .v x) h.2⟩
 | nil=>exact⟨h.1,T0.vs (p:= .nil) h.2⟩
 | ref a b c d e=>exact⟨h.1,T0.vs (p:= .ref a b c d e) h.2⟩
 | ptr a b c d=>exact⟨h.1,T0.vs (p:= .ptr a b c d) h.2⟩
 | eptr k l i j=>exact⟨h.1,T0.vs (p:= .eptr k l i j) h.2⟩
 | agg cs=>exact⟨h.1,T0.vs (p:= .agg cs) h.2⟩
 | tup cs=>exact⟨h.1,T0.vs (p:= .tup cs) h.2⟩
 | fn f caps=>exact⟨h.1,T0.vs (p:= .fn f caps) h.2⟩
 | un=>exact⟨h.1,T0.vs (p:= .un) h.2⟩
 | gb r b=>exact⟨h.1,T0.vs (p:= .gb r b) h.2⟩
 | dead=>exact⟨h.1,trivial⟩
theorem cellOk_obj (h:cellOk p=true):∀o,p≠ .obj o:=fun o e=>by subst e;cases h
theorem isOwnR_cases (h:isOwnR p=true):(∃k l,p= .row true k l)∨∃k l,p= .drow k l:=by
 cases p<;>try (simp[isOwnR]at h;done)
 case row own k l=>
  cases own
  ·simp[isOwnR]at h
  ·exact .inl ⟨_,_,rfl⟩
 case drow k l=>exact .inr ⟨_,_,rfl⟩
theorem opnP_spec {id:Nat} (h:StS X S ⟨t,s⟩ w tm J N) (hid:99<=id) (hz:∀i,Rng id 1 i->s i=⟨0,none⟩) (ha:cellOk p=true) (ho:OwnS S w J0 σ0 p u L) (T0:Tr S S w w J0 J σ0 s) (hp:Pend X S s N L) :
  ∃J' N',StS X S ⟨t,opnPB id p s⟩ w tm J' N'/\Tr S S w w J J' s (opnPB id p s)/\ValS S w J' (opnPB id p s) (opnP id p) u/\Held s N (opnPB id p s) N' L/\(∀i,¬Rng id 1 i->opnPB id p s i=s i/\J' i=J i):=by
 have hh:∀i blk,Held s N (upd s i ⟨1,some blk⟩) (upd N i L) L:=fun j blk i b hb x hx=>by
  by_cases hi:i=j
  ·subst hi;rw[upd_same]at hx;exact .inl hx
  ·rw[upd_ne _ _ hi]at hx hb;exact .inr ⟨b,hb,hx⟩
 by_cases hro:isOwnR p=true
 ·rcases isOwnR_cases hro with⟨k,l,rfl⟩ |⟨k,l,rfl⟩
  ·have hs0:s id=⟨0,none⟩:=hz id (.inl ⟨Nat.le_refl _,by omega⟩)
   obtain⟨pl,st1,T1,v1⟩:=StS.open (Z:=⟨t,s⟩) h hid (ver:=1) (by show(s id).ver<1;rw[hs0];decide) ho hp.ns hp.new hp.dj
   exact⟨_,_,st1,T1,v1,hh _ _,fun i hi=>by
    have hne:i≠id:=fun e=>hi (.inl (by omega))
    exact⟨upd_ne _ _ hne,upd_ne _ _ hne⟩⟩
  ·have hs0:s (id+1000000000)=⟨0,none⟩:=hz _ (.inr ⟨Nat.le_refl _,by omega⟩)
   obtain⟨pl,st1,T1,v1⟩:=StS.openD (Z:=⟨t,s⟩) h (id:=id+1000000000) (by omega) (ver:=1) (by show(s (id+1000000000)).ver<1;rw[hs0];decide) ho (DOwn.lts ho) hp.nd hp.ns hp.new hp.dj
   exact⟨_,_,st1,T1,v1,hh _ _,fun i hi=>by
    have hne:i≠id+1000000000:=fun e=>hi (.inr (by omega))
    exact⟨upd_ne _ _ hne,upd_ne _ _ hne⟩⟩
 ·replace hro:isOwnR p=false:=by simpa using hro
  obtain⟨rfl,hv⟩:=ownS_val T0 hro (cellOk_obj ha) ho
  have e1:opnPB id p s=s:=by
   cases p<;>try rfl
   case row own k l=>cases own<;>first|rfl|simp[isOwnR]at hro
   case drow k l=>simp[isOwnR]at hro
  have e2:opnP id p=p:=by
   cases p<;>try rfl
   case row own k l=>cases own<;>first|rfl|simp[isOwnR]at hro
   case drow k l=>simp[isOwnR]at hro
  rw[e1,e2]
  exact⟨J,N,h,Tr.refl,hv,Held.refl,fun _ _=>⟨rfl,rfl⟩⟩
theorem opn_spec {J0:Nat->Option (Nat×Nat)} {σ0:Sto}:∀{ps:List PV} {us:List Value} {id:Nat} {L:List Nat} {J:Nat->Option (Nat×Nat)} {N:Nat->List Nat} {s:Sto},StS X S ⟨t,s⟩ w tm J N->99<=id->id+ps.length<=1000000000->(∀i,Rng id ps.length i->s i=⟨0,none⟩)->(∀p∈ps,cellOk p=true)->
  All3 (OwnS S w J0 σ0) ps us L->Tr S S w w J0 J σ0 s->Pend X S s N L->
  ∃J' N',StS X S ⟨t,opnB id ps s⟩ w tm J' N'/\Tr S S w w J J' s (opnB id ps s)/\All2 (ValS S w J' (opnB id ps s)) (opnL id ps) us/\Held s N (opnB id ps s) N' L/\(∀i,¬Rng id ps.length i->opnB id ps s i=s i/\J' i=J i)
 | [],[],id,L,J,N,s,h,hid,hm,hz,ha,ho,T0,hp=>⟨J,N,h,Tr.refl,trivial,Held.refl,fun _ _=>⟨rfl,rfl⟩⟩
 | p::ps,u::us,id,L,J,N,s,h,hid,hm,hz,ha,⟨L1,L2,e,h1,h2⟩,T0,hp=>by
  subst e
  have hl:(p::ps).length=ps.length+1:=rfl
  obtain⟨J1,N1,st1,T1,v1,hh1,hk1⟩:=opnP_spec h hid (fun i hi=>hz i (by unfold Rng at *;omega)) (ha p (List.mem_cons_self ..)) h1 T0 hp.left
  obtain⟨J',N',st2,T2,v2,hh2,hk⟩:=opn_spec (id:=id+1) st1 (by omega) (by omega) (fun i hi=>by
   rw[(hk1 i (by unfold Rng at *;omega)).1];exact hz i (by unfold Rng at *;omega)) (fun p hp=>ha p (List.mem_cons_of_mem _ hp)) h2 (T0.trans T1) (hp.right hh1)
  refine⟨J',N',st2,T1.trans T2,⟨T2.vs v1,v2⟩,hh1.app hh2,fun i hi=> ?_⟩
  obtain⟨q1,q2⟩:=hk i (by unfold Rng at *;omega)
  obtain⟨q3,q4⟩:=hk1 i (by unfold Rng at *;omega)
  exact⟨q1.trans q3,q2.trans q4⟩
 | [],_::_,_,_,_,_,_,_,_,_,_,_,h,_,_=>h.elim
 | _::_,[],_,_,_,_,_,_,_,_,_,_,h,_,_=>h.elim
theorem opnX_spec {J0:Nat->Option (Nat×Nat)} {σ0:Sto}:∀{xs:List (List PV)} {locs:List (Nat×Nat)} {Le:List (List Nat)} {base e:Nat} {J:Nat->Option (Nat×Nat)} {N:Nat->List Nat} {s:Sto},StS X S ⟨t,s⟩ w tm J N->e+xs.length<=49->99<=base->base+1000*xs.length<=1000000000->locs.length=xs.length->Le.length=xs.length->(∀cs∈xs,cs.length<=1000)->
  (∀i,Rng base (1000*xs.length) i->s i=⟨0,none⟩)->(∀(i:Nat) cs,xs[i]?=some cs->s (e+i)=⟨0,some (.box (List.replicate cs.length .dead))⟩)->(∀(i:Nat) p,locs[i]?=some p->J (e+i)=some p)->
  (∀cs∈xs,∀p∈cs,cellOk p=true)->
  (∀(i:Nat) (p:Nat×Nat) (cs:List PV) (L:List Nat),locs[i]?=some p->xs[i]?=some cs->Le[i]?=some L->BoxO S w J0 σ0 p cs L)->Tr S S w w J0 J σ0 s->Pend X S s N Le.flatten->
  ∃J' N',StS X S ⟨t,opnX base e xs s⟩ w tm J' N'/\Tr S S w w J J' s (opnX base e xs s)
 | [],[],[],base,e,J,N,s,h,_,_,_,_,_,_,_,_,_,_,_,_,_=>⟨J,N,h,Tr.refl⟩
 | cs::xs,p::locs,L::Le,base,e,J,N,s,h,he,hb,hbm,hl,hL,hn,hz,hbox,hβ,ha,hB,T0,hP=>by
  obtain⟨cur,E,us,b1,b2,b3,b4⟩:=hB 0 p cs L rfl rfl rfl
  have hn0:=hn cs (List.mem_cons_self ..)
  have hxl:(cs::xs).length=xs.length+1:=rfl
  have hPl:Pend X S s N L:=by rw[List.flatten_cons]at hP;exact hP.left
  obtain⟨J1,N1,st1,T1,v1,hh1,hk⟩:=opn_spec h hb (by omega) (fun i hi=>hz i (by unfold Rng at *;omega)) (ha cs (List.mem_cons_self ..)) b4 T0 hPl
  have hlow:∀i,i<49->¬Rng base cs.length i:=fun i hi=>by unfold Rng;omega
  have hse:opnB base cs s e=⟨0,some (.box (List.replicate cs.length .dead))⟩:=by
   rw[(hk e (hlow e (by omega))).1];exact hbox 0 cs rfl
  have hβe:J1 e=some p:=by rw[(hk e (hlow e (by omega))).2];exact hβ 0 p rfl
  have hlen:(opnL base cs).length=cs.length:=by
   have:∀(ps:List PV) (id:Nat),(opnL id ps).length=ps.length:=by
    intro ps
    induction ps with
    | nil=>intro id;rfl
    | cons p ps ih=>intro id;simp[opnL,ih]
   exact this _ _
  have hsp:splice (List.replicate cs.length PV.dead) 0 (opnL base cs)=opnL base cs:=by
   unfold splice;simp[hlen]
  obtain⟨T2,st2⟩:=StS.setBox (cs':=opnL base cs) (j:=0) st1 hse (by simp[hlen]) hβe b1 (us:=us) (fun i u hi=>by rw[Nat.add_zero];exact b3 i u hi) v1
  rw[hsp]at T2 st2
  have hP2:Pend X S (opnB base cs s) N1 Le.flatten:=by rw[List.flatten_cons]at hP;exact hP.right hh1
  have hP3:Pend X S (upd (opnB base cs s) e ⟨0,some (.box (opnL base cs))⟩) N1 Le.flatten:=⟨hP2.nd,hP2.ns,hP2.new,fun i bl hbl x hx=>by
   by_cases hi:i=e
   ·subst hi;exact hP2.dj i _ (by rw[hse]) x hx
   ·rw[upd_ne _ _ hi]at hbl;exact hP2.dj i bl hbl x hx⟩
  obtain⟨J',N',st3,T3⟩:=opnX_spec (base:=base+1000) (e:=e+1) st2 (by omega) (by omega) (by omega) (by simpa using hl) (by simpa using hL) (fun c hc=>hn c (List.mem_cons_of_mem _ hc))
   (fun i hi=>by rw[upd_ne _ _ (by unfold Rng at hi;omega),(hk i (by unfold Rng at *;omega)).1];exact hz i (by unfold Rng at *;omega))
   (fun i c hc=>by
    have hi:=(qS1.1 hc).1
    rw[upd_ne _ _ (by omega),(hk (e+1+i) (hlow _ (by omega))).1,show e+1+i=e+(i+1) by omega];exact hbox (i+1) c (by simpa using hc))
   (fun i q hq=>by
    have hi:=(qS1.1 hq).1
    have hl':locs.length=xs.length:=by simpa using hl
    rw[(hk (e+1+i) (hlow _ (by omega))).2,show e+1+i=e+(i+1) by omega];exact hβ (i+1) q (by simpa using hq))
   (fun c hc=>ha c (List.mem_cons_of_mem _ hc)) (fun i q c M h1 h2 h3=>hB (i+1) q c M (by simpa using h1) (by simpa using h2) (by simpa using h3)) (T0.trans (T1.trans T2)) hP3
  exact⟨J',N',st3,T1.trans (T2.trans T3)⟩
 | [],_::_,_,_,_,_,_,_,_,_,_,_,hl,_,_,_,_,_,_,_,_,_=>by cases hl
 | [],[],_::_,_,_,_,_,_,_,_,_,_,_,hl,_,_,_,_,_,_,_,_=>by cases hl
 | _::_,[],_,_,_,_,_,_,_,_,_,_,hl,_,_,_,_,_,_,_,_,_=>by cases hl
 | _::_,_::_,[],_,_,_,_,_,_,_,_,_,_,hl,_,_,_,_,_,_,_,_=>by cases hl
def RngA (i n j:Nat):Prop:=Rng (90000000+i) n j∨Rng (91000000+1000*i) (1000*n) j
theorem opn1_spec (h:StS X S ⟨t,s⟩ w tm J N) (hi1:i<1000) (hz:∀j,RngA i 1 j->s j=⟨0,none⟩) (ha:argOk p=true) (ho:Own1 S w J0 σ0 p u L) (T0:Tr S S w w J0 J σ0 s) (hp:Pend X S s N L) :
  ∃J' N',StS X S ⟨t,opn1B i p s⟩ w tm J' N'/\Tr S S w w J J' s (opn1B i p s)/\Val1 S w J' (opn1B i p s) (opn1 i p) u/\Held s N (opn1B i p s) N' L/\(∀j,¬RngA i 1 j->opn1B i p s j=s j/\J' j=J j):=by
 by_cases hagg:∃cs,p= .agg cs
 ·obtain⟨cs,rfl⟩:=hagg
  obtain⟨us,rfl,h3⟩:=ho
  have ha2:cs.all cellOk=true/\Nat.ble cs.length 1000=true:=by simpa [argOk]using ha
  have hcl:cs.length<=1000:=Nat.le_of_ble_eq_true ha2.2
  obtain⟨J',N',st,T,v,hh,hk⟩:=opn_spec (id:=91000000+1000*i) h (by omega) (by omega) (fun j hj=>hz j (.inr (by unfold Rng at *;omega))) (fun p hp=>List.all_eq_true.1 ha2.1 p hp) h3 T0 hp
  exact⟨J',N',st,T,⟨us,rfl,v⟩,hh,fun j hj=>hk j fun hr=>hj (.inr (by unfold Rng at *;omega))⟩
 ·have hc:cellOk p=true:=by cases p<;>first|exact ha|exact absurd ⟨_,rfl⟩ hagg
  have ho':OwnS S w J0 σ0 p u L:=by cases p<;>first|exact ho|exact absurd ⟨_,rfl⟩ hagg
  have e1:opn1B i p s=opnPB (90000000+i) p s:=by cases p<;>first|rfl|exact absurd ⟨_,rfl⟩ hagg
  have e2:opn1 i p=opnP (90000000+i) p:=by cases p<;>first|rfl|exact absurd ⟨_,rfl⟩ hagg
  rw[e1,e2]
  obtain⟨J',N',st,T,v,hh,hk⟩:=opnP_spec (id:=90000000+i) h (by omega) (fun j hj=>hz j (.inl hj)) hc ho' T0 hp
  refine⟨J',N',st,T,?_,hh,fun j hj=>hk j fun hr=>hj (.inl hr)⟩
  cases p<;>first|exact v|exact absurd ⟨_,rfl⟩ hagg|skip
  case row own k l=>cases own<;>exact v
theorem opnA_spec {J0:Nat->Option (Nat×Nat)} {σ0:Sto}:∀{ps:List PV} {us:List Value} {i:Nat} {L:List Nat} {J:Nat->Option (Nat×Nat)} {N:Nat->List Nat} {s:Sto},StS X S ⟨t,s⟩ w tm J N->i+ps.length<=1000->(∀j,RngA i ps.length j->s j=⟨0,none⟩)->(∀p∈ps,argOk p=true)->
  All3 (Own1 S w J0 σ0) ps us L->Tr S S w w J0 J σ0 s->Pend X S s N L->
  ∃J' N',StS X S ⟨t,opnAB i ps s⟩ w tm J' N'/\Tr S S w w J J' s (opnAB i ps s)/\All2 (Val1 S w J' (opnAB i ps s)) (opnA i ps) us/\Held s N (opnAB i ps s) N' L/\(∀j,¬RngA i ps.length j->opnAB i ps s j=s j/\J' j=J j)
 | [],[],i,L,J,N,s,h,hm,hz,ha,ho,T0,hp=>⟨J,N,h,Tr.refl,trivial,Held.refl,fun _ _=>⟨rfl,rfl⟩⟩
 | p::ps,u::us,i,L,J,N,s,h,hm,hz,ha,⟨L1,L2,e,h1,h2⟩,T0,hp=>by
  subst e
  have hl:(p::ps).length=ps.length+1:=rfl
  obtain⟨J1,N1,st1,T1,v1,hh1,hk1⟩:=opn1_spec (i:=i) h (by omega) (fun j hj=>hz j (by unfold RngA Rng at *;omega)) (ha p (List.mem_cons_self ..)) h1 T0 hp.left
  obtain⟨J',N',st2,T2,v2,hh2,hk⟩:=opnA_spec (i:=i+1) st1 (by omega) (fun j hj=>by
   rw[(hk1 j (by unfold RngA Rng at *;omega)).1];exact hz j (by unfold RngA Rng at *;omega)) (fun p hp=>ha p (List.mem_cons_of_mem _ hp)) h2 (T0.trans T1) (hp.right hh1)
  refine⟨J',N',st2,T1.trans T2,⟨T2.v1 v1,v2⟩,hh1.app hh2,fun j hj=> ?_⟩
  obtain⟨q1,q2⟩:=hk j (by unfold RngA Rng at *;omega)
  obtain⟨q3,q4⟩:=hk1 j (by unfold RngA Rng at *;omega)
  exact⟨q1.trans q3,q2.trans q4⟩
 | [],_::_,_,_,_,_,_,_,_,_,_,h,_,_=>h.elim
 | _::_,[],_,_,_,_,_,_,_,_,_,h,_,_=>h.elim
end
open Go.RowKit
theorem extC_spec {Z:Env}:∀{n e:Nat} {l:List (List PV)},extC Z e n=some l->l.length=n/\∀(i:Nat) cs,l[i]?=some cs->∃v,Z.s (e+i)=⟨v,some (.box cs)⟩
 | 0,e,l,h=>by cases h;exact⟨rfl,fun i cs h=>by simp at h⟩
 | n+1,e,l,h=>by
  unfold extC at h
  split at h
  ·rename_i v cs l' h1 h2
   cases h
   obtain⟨q1,q2⟩:=extC_spec h2
   refine⟨by simp[q1],fun i c hc=> ?_⟩
   cases i with
   | zero=>simp at hc;subst hc;exact⟨v,h1⟩
   | succ i=>obtain⟨v',q3⟩:=q2 i c (by simpa using hc);exact⟨v',by rw[show e+(i+1)=e+1+i by omega];exact q3⟩
  ·cases h
theorem All3.split {R:PV->Value->List Nat->Prop}:∀{as bs:List PV} {us:List Value} {L:List Nat},All3 R (as++bs) us L->∃u1 u2 L1 L2,us=u1++u2/\L=L1++L2/\All3 R as u1 L1/\All3 R bs u2 L2
 | [],bs,us,L,h=>⟨[],us,[],L,rfl,rfl,rfl,h⟩
 | a::as,bs,u::us,L,⟨L1,L2,e,h1,h2⟩=>by
  obtain⟨u1,u2,M1,M2,rfl,rfl,h3,h4⟩:=All3.split h2
  subst e
  exact⟨u::u1,u2,L1++M1,M2,rfl,by rw[List.append_assoc],⟨L1,M1,rfl,h1,h3⟩,h4⟩
 | _::_,_,[],_,h=>h.elim
theorem All3.aggs {S:Nat->Prop} {w:World} {J:Nat->Option (Nat×Nat)} {σ:Sto}:∀{xs:List (List PV)} {us:List Value} {L:List Nat},All3 (Own1 S w J σ) (xs.map .agg) us L->∃(vs:List (Array Value)) (Ls:List (List Nat)),us=vs.map Value.agg/\Ls.flatten=L/\vs.length=xs.length/\Ls.length=xs.length/\
  ∀(i:Nat) cs v M,xs[i]?=some cs->vs[i]?=some v->Ls[i]?=some M->All3 (OwnS S w J σ) cs v.toList M
 | [],[],L,h=>⟨[],[],rfl,h.symm,rfl,rfl,fun i cs v M h=>by simp at h⟩
 | cs::xs,u::us,L,⟨L1,L2,e,h1,h2⟩=>by
  subst e
  obtain⟨v,rfl,h3⟩:=h1
  obtain⟨vs,Ls,rfl,e2,q1,q2,q3⟩:=All3.aggs h2
  refine⟨v::vs,L1::Ls,rfl,by simp[e2],by simp[q1],by simp[q2],fun i c v' M hc hv hM=> ?_⟩
  cases i with
  | zero=>simp at hc hv hM;subst hc hv hM;exact h3
  | succ i=>exact q3 i c v' M (by simpa using hc) (by simpa using hv) (by simpa using hM)
 | [],_::_,_,h=>h.elim
 | _::_,[],_,h=>h.elim
theorem nodup_get:∀{l:List Nat} {i j x:Nat},l.Nodup->l[i]?=some x->l[j]?=some x->i=j
 | y::l,i,j,x,h,h1,h2=>by
  rw[List.nodup_cons]at h
  cases i with
  | zero=>cases j with
   | zero=>rfl
   | succ j=>simp at h1 h2;subst h1;exact absurd (qM1 h2) h.1
  | succ i=>cases j with
   | zero=>simp at h1 h2;subst h2;exact absurd (qM1 h1) h.1
   | succ j=>exact congrArg (· + 1) (nodup_get h.2 (by simpa using h1) (by simpa using h2))
 | [],_,_,_,_,h,_=>by simp at h
theorem own_oneOr {qs:List PV} (h:All3 (Own1 S w J σ) qs us L):OwnV S w J σ (oneOr qs) (oneVal us) L:=by
 match qs,us,h with
 | [],[],h=>exact⟨#[],rfl,h⟩
 | [q],[u],⟨L1,L2,e,h1,h2⟩=>
  have:L2=[]:=h2
  subst this
  rw[List.append_nil]at e
  subst e
  show OwnV _ _ _ _ q u L
  cases q<;>first|exact h1|exact h1.2.elim
 | q1::q2::qs,u1::u2::us,h=>exact⟨(u1::u2::us).toArray,rfl,by simpa using h⟩
 | [],_::_,h=>exact h.elim
 | _::_,[],h=>exact h.elim
 | [_],_::_::_,⟨_,_,_,_,h⟩=>exact h.elim
 | _::_::_,[_],⟨_,_,_,_,h⟩=>exact h.elim
section
variable {P:Program}
theorem exit_out {E:World->Prop} {exts:List (List PV)} {rx:Nat->Option (Value×Nat)} {few:locs.length<=49} {hG:∀b∈locs.map (·.1)++La++Le.flatten,G<=b} {hw:G<=w.heap.size} {cl:∀w w':World,E w->(∀b,b<G->w'.heap[b]?=w.heap[b]?)->E w'}
  (hl1:locs.length=exts.length) (hlocnd:(locs.map (·.1)).Nodup) (hel:exts'.map List.length=exts.map List.length)
  {X:Ctx} (hX:X= {w0:=w,F:=locs.map (·.1)++La++Le.flatten,ext:=locs,lens:=exts.map List.length,E:=E,S:=S,few:=few,rx:=rx,G:=G,hG:=hG,hw:=hw,cl:=cl})
  {Z':Env} {tm':Array Value} {J:Nat->Option (Nat×Nat)} {N:Nat->List Nat} (hst':St X Z' w' tm' J N) {ls:List PV} {gs:List Value} (hgs:All2 (ValS (Fz X w' N Z'.s) w' J Z'.s) ls gs)
  {vs:List PV} {us':List Value} (hall':All2 (ValC (Fz X w' N Z'.s) w' J Z'.s) vs us') {cs:List (List PV)} {qs:List PV} {A B:List Nat} (h2:extC Z' 0 exts.length=some cs) (h3:close1LK Z'.s (vs++ .agg ls::cs.map .agg)=some (qs,A,B)) (h4:nodupB A=true) (h5:disjL A B=true) {rT bT:List PV} (h6:All2 wk1 qs (rT++ .agg bT::exts'.map .agg)) :
  ∃(L1 L3:List Nat) (Le':List (List Nat)),Le'.length=exts.length/\(locs.map (·.1)++(L1++L3)++Le'.flatten).Nodup/\
   (∀b∈(L1++L3)++Le'.flatten,(b∈La++Le.flatten∨w.heap.size<=b)/\b<w'.heap.size)/\
   OwnV (fun b=>(S b∨b∈La++Le.flatten∨w.heap.size<=b)/\b<w'.heap.size/\b∉locs.map (·.1)++(L1++L3)++Le'.flatten) w' (extB locs) (extS exts') (oneOr rT) (oneVal us') L1/\
   All3 (OwnS (fun b=>(S b∨b∈La++Le.flatten∨w.heap.size<=b)/\b<w'.heap.size/\b∉locs.map (·.1)++(L1++L3)++Le'.flatten) w' (extB locs) (extS exts')) bT gs L3/\
   (∀(j:Nat) p cs L,locs[j]?=some p->exts'[j]?=some cs->Le'[j]?=some L->BoxO (fun b=>(S b∨b∈La++Le.flatten∨w.heap.size<=b)/\b<w'.heap.size/\b∉locs.map (·.1)++(L1++L3)++Le'.flatten) w' (extB locs) (extS exts') p cs L)/\
   Stay w w' (locs.map (·.1)++La++Le.flatten) locs (exts.map List.length):=by
 subst hX
 let X:Ctx:= {w0:=w,F:=locs.map (·.1)++La++Le.flatten,ext:=locs,lens:=exts.map List.length,E:=E,S:=S,few:=few,rx:=rx,G:=G,hG:=hG,hw:=hw,cl:=cl}
 obtain⟨lA,lB⟩:=(close1LK_ln h3).1
 have hA:=nodupB_spec h4
 have hdis:=disjL_spec h5
 obtain⟨hcl,hcs⟩:=extC_spec h2
 simp only[Nat.zero_add]at hcs
 have hbx:∀(i:Nat) c,cs[i]?=some c->∃p,locs[i]?=some p/\c.length=(exts.map List.length)[i]?.getD 0/\N i=[p.1]/\∃cur E us0,RowAt w' p.1 cur E/\p.2+c.length<=cur.size/\us0.length=c.length/\(∀(j:Nat) u,us0[j]?=some u->cur[p.2+j]?=some u/\u.oneCell'=true)/\All2 (ValS (Fz X w' N Z'.s) w' J Z'.s) c us0:=fun i c hc=>by
  obtain⟨ver,hs0⟩:=hcs i c hc
  have hi:i<locs.length:=by have:=(qS1.1 hc).1;omega
  have hloc:locs[i]?=some locs[i]:=by simp[hi]
  obtain⟨q1,cs0,q2,q3⟩:=hst'.ext i locs[i] hloc
  rw[hs0]at q2
  cases q2
  obtain⟨b,off,cur,E0,r1,r2,r3,r4,r5⟩:=hst'.blk i _ (by rw[hs0])
  rw[q1]at r1
  obtain⟨e1,e2⟩:locs[i].1=b/\locs[i].2=off:=by injection r1 with r1;rw[r1];exact⟨rfl,rfl⟩
  have key:∀(l:List PV) (k:Nat),(∀(j:Nat) p,l[j]?=some p->c[k+j]?=some p)->∃us0:List Value,us0.length=l.length/\(∀(j:Nat) u,us0[j]?=some u->cur[off+k+j]?=some u/\u.oneCell'=true)/\All2 (ValS (Fz X w' N Z'.s) w' J Z'.s) l us0:=by
   intro l
   induction l with
   | nil=>intro k _;exact⟨[],rfl,(fun j u h=>by simp at h),trivial⟩
   | cons p l ih=>
    intro k hl
    obtain⟨us0,m1,m2,m3⟩:=ih (k+1) fun j p hp=>by rw[show k+1+j=k+(j+1) by omega];exact hl (j+1) p (by simpa using hp)
    obtain⟨u,hu,h1c,hv⟩:=r5 k p (by simpa using hl 0 p rfl)
    refine⟨u::us0,by simp[m1],fun j u' hj=> ?_,hv,m3⟩
    cases j with
    | zero=>simp at hj;subst hj;exact⟨by simpa using hu,h1c⟩
    | succ j=>rw[show off+k+(j+1)=off+(k+1)+j by omega];exact m2 j u' (by simpa using hj)
  obtain⟨us0,m1,m2,m3⟩:=key c 0 fun j p hp=>by rw[Nat.zero_add];exact hp
  refine⟨locs[i],hloc,?_,by rw[e1];exact r2,cur,E0,us0,by rw[e1];exact r3,by rw[e2];exact r4,m1,fun j u hj=>by rw[e2];exact m2 j u hj,m3⟩
  have q3:(exts.map List.length)[i]?=some c.length:=q3
  rw[q3];rfl
 obtain⟨uss,hul2,hul2',hall2⟩:∃uss:List (Array Value),uss.length=cs.length/\(∀(i:Nat) c v,cs[i]?=some c->uss[i]?=some v->∃p,locs[i]?=some p/\∃cur E,RowAt w' p.1 cur E/\p.2+c.length<=cur.size/\v.toList.length=c.length/\(∀(j:Nat) u,v.toList[j]?=some u->cur[p.2+j]?=some u/\u.oneCell'=true))/\All2 (ValC (Fz X w' N Z'.s) w' J Z'.s) (cs.map .agg) (uss.map Value.agg):=by
  have key:∀(l:List (List PV)) (k:Nat),(∀(i:Nat) c,l[i]?=some c->cs[k+i]?=some c)->∃uss:List (Array Value),uss.length=l.length/\(∀(i:Nat) c v,l[i]?=some c->uss[i]?=some v->∃p,locs[k+i]?=some p/\∃cur E,RowAt w' p.1 cur E/\p.2+c.length<=cur.size/\v.toList.length=c.length/\(∀(j:Nat) u,v.toList[j]?=some u->cur[p.2+j]?=some u/\u.oneCell'=true))/\All2 (ValC (Fz X w' N Z'.s) w' J Z'.s) (l.map .agg) (uss.map Value.agg):=by
   intro l
   induction l with
   | nil=>intro k _;exact⟨[],rfl,(fun i c v h=>by simp at h),trivial⟩
   | cons c l ih=>
    intro k hl
    obtain⟨uss,m1,m2,m3⟩:=ih (k+1) fun i c hc=>by rw[show k+1+i=k+(i+1) by omega];exact hl (i+1) c (by simpa using hc)
    obtain⟨p,n1,_,_,cur,E0,us0,n3,n4,n5,n6,n7⟩:=hbx k c (by simpa using hl 0 c rfl)
    refine⟨us0.toArray::uss,by simp[m1],fun i c' v' hc hv=> ?_,⟨us0.toArray,rfl,by simpa using n7⟩,m3⟩
    cases i with
    | zero=>simp at hc hv;subst hc hv;exact⟨p,by simpa using n1,cur,E0,n3,n4,by simpa using n5,fun j u hj=>n6 j u (by simpa using hj)⟩
    | succ i=>rw[show k+(i+1)=k+1+i by omega];exact m2 i c' v' (by simpa using hc) (by simpa using hv)
  obtain⟨uss,m1,m2,m3⟩:=key cs 0 fun i c hc=>by rw[Nat.zero_add];exact hc
  exact⟨uss,m1,fun i c v hc hv=>by have:=m2 i c v hc hv;rwa[Nat.zero_add]at this,m3⟩
 have hallT:=All2.app hall' (show All2 _ (.agg ls::cs.map .agg) (.agg gs.toArray::uss.map Value.agg)from⟨⟨gs.toArray,rfl,by simpa using hgs⟩,hall2⟩)
 obtain⟨nbA,nbB⟩:=(close1LK_ln h3).2
 have hlocN:∀b,b∈locs.map (·.1)->∃i c,cs[i]?=some c/\b∈N i:=fun b hb=>by
  obtain⟨p,hp,rfl⟩:=List.mem_map.1 hb
  obtain⟨i,hi⟩:=List.getElem?_of_mem hp
  have hilt:=(qS1.1 hi).1
  have hc:cs[i]?=some (cs[i]'(by omega)):=by simp[hcl,<-hl1,hilt]
  obtain⟨p',q1,_,q2,_⟩:=hbx i _ hc
  rw[hi]at q1;cases q1
  exact⟨i,_,hc,by rw[q2];simp⟩
 have hbox':∀(i:Nat) c,cs[i]?=some c->∃blk,(Z'.s i).blk=some blk/\blk= .box c:=fun i c hc=>by
  obtain⟨ver,e⟩:=hcs i c hc
  exact⟨_,by rw[e],rfl⟩
 have hnoloc:∀id blk,(Z'.s id).blk=some blk->(∀ds,blk≠ .box ds)->∀b∈N id,b∉locs.map (·.1):=fun id blk hbk hnb b hbN hm=>by
  obtain⟨i,c,hc,hbi⟩:=hlocN b hm
  obtain⟨blk',hbk',rfl⟩:=hbox' i c hc
  refine hst'.disj id i _ _ hbk hbk' (fun e=> ?_) b hbN hbi
  subst e
  rw[hbk]at hbk';cases hbk'
  exact hnb c rfl
 have hin:∀id blk,(Z'.s id).blk=some blk->(∀ds,blk≠ .box ds)->∀b∈N id,(b∈La++Le.flatten∨w.heap.size<=b)/\b<w'.heap.size/\b∉locs.map (·.1):=fun id blk hbk hnb b hbN=>by
  have h0:=hnoloc id blk hbk hnb b hbN
  refine⟨?_,hst'.lt id blk hbk b hbN,h0⟩
  rcases hst'.new id blk hbk b hbN with h|h
  ·have h:b∈locs.map (·.1)++La++Le.flatten:=h
   rw[List.append_assoc]at h
   exact .inl ((List.mem_append.1 h).resolve_left h0)
  ·exact .inr h
 have hL0:∀b∈(A.map N).flatten,∃id∈A,b∈N id:=fun b hb=>by
  obtain⟨q,hq,hb⟩:=List.mem_flatten.1 hb
  obtain⟨id,hid,rfl⟩:=List.mem_map.1 hq
  exact⟨id,hid,hb⟩
 have hL0in:∀b∈(A.map N).flatten,(b∈La++Le.flatten∨w.heap.size<=b)/\b<w'.heap.size/\b∉locs.map (·.1):=fun b hb=>by
  obtain⟨id,hid,hbN⟩:=hL0 b hb
  obtain⟨blk,hbk⟩:=lA id hid
  exact hin id blk hbk (fun ds e=>nbA id hid ds (by rw[hbk,e])) b hbN
 let SB:Nat->Prop:=fun b=>(S b∨b∈La++Le.flatten∨w.heap.size<=b)/\b<w'.heap.size/\b∉locs.map (·.1)/\b∉(A.map N).flatten
 have hSB:∀b,Fz X w' N Z'.s b->SB b:=fun b hb=>by
  have hnl:b∉locs.map (·.1):=fun hm=>by
   obtain⟨i,c,hc,hbi⟩:=hlocN b hm
   obtain⟨blk',hbk',_⟩:=hbox' i c hc
   exact hb.2.1 ⟨i,blk',hbk',hbi⟩
  refine⟨?_,hb.1,hnl,fun hm=> ?_⟩
  ·rcases hb.2.2 with h|h|h
   ·exact .inl h
   ·have h:b∈locs.map (·.1)++La++Le.flatten:=h
    rw[List.append_assoc]at h
    exact .inr (.inl ((List.mem_append.1 h).resolve_left hnl))
   ·exact .inr (.inr h)
  ·obtain⟨id,hid,hbN⟩:=hL0 b hm
   obtain⟨blk,hbk⟩:=lA id hid
   exact hb.2.1 ⟨id,blk,hbk,hbN⟩
 have hxk:HxK Z' J (extB locs) (extS exts'):=fun e c u he ⟨p1,p2,p3⟩=>by
  refine⟨Nat.zero_le _,p2,fun blk hb=> ?_⟩
  unfold extS at hb
  split at hb
  ·rename_i c2 hc2
   cases hb
   have hlt:e<exts'.length:=(qS1.1 hc2).1
   have hll:exts'.length=exts.length:=by have:=congrArg List.length hel;simpa using this
   have hloc:locs[e]?=some (locs[e]'(by omega)):=qE1 (by omega)
   obtain⟨q1,_⟩:=hst'.ext e _ hloc
   obtain⟨b,off,r1,r2⟩:=p3 _ he
   rw[q1]at r1
   exact⟨b,off,hloc.trans r1,r2⟩
  ·cases hb
 obtain⟨-,k2⟩:=close1LK_spec (S':=SB) (J':=extB locs) (σ':=extS exts') hst' hxk hSB hallT h3 (fun id hid b hbN=>by
  obtain⟨blk,hbk⟩:=lB id hid
  obtain⟨q1,q2,q3⟩:=hin id blk hbk (fun ds e=>nbB id hid ds (by rw[hbk,e])) b hbN
  refine⟨.inr q1,q2,q3,fun hm=> ?_⟩
  obtain⟨id2,hid2,hbN2⟩:=hL0 b hm
  obtain⟨blk2,hbk2⟩:=lA id2 hid2
  exact hst'.disj id2 id _ _ hbk2 hbk (fun e=>hdis id2 hid2 (e▸hid)) b hbN2 hbN)
 have hnd2:=hst'.nodups hA lA
 obtain⟨L',hsub,hk⟩:=All3.wk (R:=fun S p u L=>Own1 S w' (extB locs) (extS exts') p u L) (fun p q u L hn h ho=>wk1_own hn h ho) hnd2 h6 k2
 have hk:=hk (fun b=>(S b∨b∈La++Le.flatten∨w.heap.size<=b)/\b<w'.heap.size/\b∉locs.map (·.1)++L') (fun b hb=>⟨hb.1,hb.2.1,fun hm=>(List.mem_append.1 hm).elim hb.2.2.1 fun h=>hb.2.2.2 (hsub.mem h)⟩)
  (fun b hb hb'=>by
   obtain⟨q1,q2,q3⟩:=hL0in b hb
   exact⟨.inr q1,q2,fun hm=>(List.mem_append.1 hm).elim q3 hb'⟩)
 obtain⟨u1,u2,L1,L2,e1,rfl,o1,o2⟩:=All3.split hk
 have hlq:=All2.len h6
 have hxl:exts'.length=exts.length:=by have:=congrArg List.length hel;simpa using this
 have hu1:u1.length=us'.length:=by
  have m1:=All3.len o1
  have m2:=All3.len o2
  have m3:=congrArg List.length e1
  simp only[List.length_append,List.length_map,List.length_cons]at m2 m3
  omega
 obtain⟨rfl,rfl⟩:=List.append_inj e1 hu1.symm
 obtain⟨L3,L4,rfl,o3,o2⟩:=o2
 obtain⟨gs',eg,o3⟩:=o3
 have eg:gs'=gs.toArray:=by injection eg with eg;exact eg.symm
 subst eg
 rw[show gs.toArray.toList=gs by simp]at o3
 obtain⟨vs2,Ls,e2,e3,n1,n2,n3⟩:=All3.aggs o2
 have hvs:vs2=uss:=(List.map_inj_right (fun a b h=>by injection h)).1 e2.symm
 subst hvs
 subst e3
 have eL:locs.map (·.1)++(L1++(L3++Ls.flatten))=locs.map (·.1)++(L1++L3)++Ls.flatten:=by simp only[List.append_assoc]
 refine⟨L1,L3,Ls,by rw[n2,hxl],?_,fun b hb=> ?_,?_,?_,fun j p c M hj hc hM=> ?_,?_⟩
 ·rw[<-eL,List.nodup_append]
  exact⟨hlocnd,hsub.nodup hnd2,fun x hx y hy e=>(hL0in y (hsub.mem hy)).2.2 (e▸hx)⟩
 ·obtain⟨q1,q2,_⟩:=hL0in b (hsub.mem (by rw[List.append_assoc]at hb;exact hb))
  exact⟨q1,q2⟩
 ·have:=own_oneOr o1
  rw[eL]at this
  exact this
 ·rw[eL]at o3
  exact o3
 ·have hjl:j<exts'.length:=(qS1.1 hc).1
  have hcj:cs[j]?=some (cs[j]'(by omega)):=by simp[hcl,<-hxl,hjl]
  have hvj:vs2[j]?=some (vs2[j]'(by omega)):=by simp[n1,hjl]
  obtain⟨p',q1,cur,E0,q2,q3,q4,q5⟩:=hul2' j _ _ hcj hvj
  rw[hj]at q1;cases q1
  have q6:=n3 j c _ M hc hvj hM
  have hcl2:c.length=(cs[j]'(by omega)).length:=by rw[<-q4];exact All3.len q6
  rw[eL]at q6
  exact⟨cur,E0,_,q2,by rw[hcl2];exact q3,fun i u hi=>q5 i u hi,q6⟩
 ·obtain⟨f1,f2,f3,f4,f5,f6⟩:=hst'.frm
  exact⟨f1,f2,f3,f4,f5,f6⟩
end
open Go.RowKit
section
variable {P:Program}
theorem init_take {E:World->Prop} {args:List PV} {exts:List (List PV)} {rx:Nat->Option (Value×Nat)} {few:locs.length<=49} {hG:∀b∈locs.map (·.1)++La++Le.flatten,G<=b} {hw:G<=w.heap.size} {cl:∀w w':World,E w->(∀b,b<G->w'.heap[b]?=w.heap[b]?)->E w'}
  {X:Ctx} (hX:X= {w0:=w,F:=locs.map (·.1)++La++Le.flatten,ext:=locs,lens:=exts.map List.length,E:=E,S:=S,few:=few,rx:=rx,G:=G,hG:=hG,hw:=hw,cl:=cl}) (hE:E w)
  (hl1:locs.length=exts.length) (hl2:Le.length=exts.length) (hnd:(locs.map (·.1)++La++Le.flatten).Nodup) (hF0:∀b∈locs.map (·.1)++La++Le.flatten,G<=b/\b<w.heap.size) (hS:∀b,S b->b<w.heap.size/\b∉locs.map (·.1)++La++Le.flatten)
  (hargs:All3 (Own1 S w (extB locs) (extS exts)) args us La) (hext:∀(j:Nat) p cs L,locs[j]?=some p->exts[j]?=some cs->Le[j]?=some L->BoxO S w (extB locs) (extS exts) p cs L)
  (hargs0:args.all argOk=true) (hcells:exts.all (fun cs=>cs.all cellOk)=true) {nt:Nat} (hlen:args.length<=nt) (hne:exts.length<=49) (hnc:∀cs∈exts,cs.length<=1000) (hal:args.length<=1000) (hrx:rx=fun _=>none) :
  ∃J N,St X (initX false args exts) w (us.toArray++Array.replicate (nt-us.toArray.size) undef) J N:=by
 subst hX
 subst hrx
 let X:Ctx:= {w0:=w,F:=locs.map (·.1)++La++Le.flatten,ext:=locs,lens:=exts.map List.length,E:=E,S:=S,few:=few,rx:=fun _=>none,G:=G,hG:=hG,hw:=hw,cl:=cl}
 have hboxE:∀(j:Nat) p,locs[j]?=some p->∃cs,exts[j]?=some cs/\∃L,Le[j]?=some L/\BoxO S w (extB locs) (extS exts) p cs L:=fun j p hp=>by
  have hj:=(qS1.1 hp).1
  have e1:exts[j]?=some (exts[j]'(by omega)):=by simp[<-hl1,hj]
  have e2:Le[j]?=some (Le[j]'(by omega)):=by simp[hl2,<-hl1,hj]
  exact⟨_,e1,_,e2,hext j p _ _ hp e1 e2⟩
 let J0:Nat->Option (Nat×Nat):=extB locs
 let N0:Nat->List Nat:=fun j=>match locs[j]? with|some p=> [p.1]|none=> []
 have T0:Tr S S w w (extB locs) J0 (extS exts) (deadX exts):=by
  refine⟨fun h=>h,fun{id ver off n full u} hr=> ?_,fun{id ver i j u} hp=> ?_⟩
  ·obtain⟨h1,h2,h3⟩:=hr
   refine⟨?_,h2,fun blk k l e hr=> ?_⟩
   ·have:(extS exts id).ver=0:=by unfold extS;split<;>rfl
    rw[this]at h1
    have e2:(deadX exts id).ver=0:=by unfold deadX;split<;>rfl
    rw[e2];exact h1
   ·unfold deadX at e;split at e<;>cases e<;>cases hr
  ·obtain⟨h1,h2,h3⟩:=hp
   refine⟨?_,h2,fun blk e=> ?_⟩
   ·have:(extS exts id).ver=0:=by unfold extS;split<;>rfl
    rw[this]at h1
    have e2:(deadX exts id).ver=0:=by unfold deadX;split<;>rfl
    rw[e2];exact h1
   ·unfold deadX at e
    split at e
    ·rename_i cs hcs
     cases e
     have:=h3 (.box cs) (by unfold extS;rw[hcs])
     exact this
    ·cases e
 have hul:us.length=args.length:=(All3.len hargs).symm
 let t0:Nat->PV:=fun _=> .dead
 let tm:Array Value:=us.toArray++Array.replicate (nt-us.toArray.size) undef
 have live0:∀id b,(deadX exts id).blk=some b->∃cs p,exts[id]?=some cs/\locs[id]?=some p/\b= .box (List.replicate cs.length .dead)/\N0 id=[p.1]:=fun id b hb=>by
  unfold deadX at hb
  split at hb
  ·rename_i cs hcs
   cases hb
   have hj:=(qS1.1 hcs).1
   have e1:locs[id]?=some (locs[id]'(by omega)):=by simp[hl1,hj]
   exact⟨cs,_,hcs,e1,rfl,by simp[N0,e1]⟩
  ·cases hb
 have hlocnd:(locs.map (·.1)).Nodup:=by rw[List.append_assoc]at hnd;exact(List.nodup_append.1 hnd).1
 have st0:StS X S ⟨t0,deadX exts⟩ w tm J0 N0:=by
  refine⟨fun t u hu=>trivial,fun id b hb=> ?_,fun id b hb x hx=> ?_,fun id b hb=> ?_,fun id id' b b' hb hb' hne x hx hx'=> ?_,fun id b hb x hx=> ?_,fun j p hp=> ?_,(fun q u n hq=>by cases hq),⟨rfl,rfl,rfl,Nat.le_refl _,fun _ _ _=>rfl,fun j b off n hj hn=> ?_⟩,hE,fun b hb=>⟨(hS b hb).1,fun⟨id,bl,h1,h2⟩=> ?_,.inl hb⟩⟩
  ·obtain⟨cs,p,h1,h2,rfl,h3⟩:=live0 id b hb
   obtain⟨cs',h4,L,h5,cur,E0,vs,b1,b2,b3,b4⟩:=hboxE id p h2
   rw[h1]at h4;cases h4
   refine⟨p.1,p.2,cur,E0,by simp[J0,extB,h2],h3,b1,by simpa using b2,fun j q hq=> ?_⟩
   rw[List.getElem?_replicate]at hq
   split at hq
   ·rename_i hj
    cases hq
    have hj2:j<vs.length:=by rw[<-All3.len b4];exact hj
    obtain⟨m1,m2⟩:=b3 j vs[j] (by simp[hj2])
    exact⟨_,m1,m2,trivial⟩
   ·cases hq
  ·obtain⟨cs,p,h1,h2,rfl,h3⟩:=live0 id b hb
   rw[h3]at hx
   have:=List.mem_singleton.1 hx
   subst this
   exact(hF0 _ (by rw[List.append_assoc];exact List.mem_append_left _ (List.mem_map.2 ⟨p,qM1 h2,rfl⟩))).2
  ·obtain⟨cs,p,h1,h2,rfl,h3⟩:=live0 id b hb
   rw[h3];simp
  ·obtain⟨cs,p,h1,h2,rfl,h3⟩:=live0 id b hb
   obtain⟨cs',p',h1',h2',rfl,h3'⟩:=live0 id' b' hb'
   rw[h3]at hx;rw[h3']at hx'
   have e1:=List.mem_singleton.1 hx
   have e2:=List.mem_singleton.1 hx'
   exact hne (nodup_get hlocnd (x:=x) (by rw[List.getElem?_map,h2,e1];rfl) (by rw[List.getElem?_map,h2',e2];rfl))
  ·obtain⟨cs,p,h1,h2,rfl,h3⟩:=live0 id b hb
   rw[h3]at hx
   have:=List.mem_singleton.1 hx
   subst this
   exact .inl (by show _∈locs.map (·.1)++La++Le.flatten;rw[List.append_assoc];exact List.mem_append_left _ (List.mem_map.2 ⟨p,qM1 h2,rfl⟩))
  ·obtain⟨cs,h1,L,h2,h3⟩:=hboxE j p hp
   refine⟨by simp[J0,extB,show locs[j]?=some p from hp],List.replicate cs.length .dead,?_,?_⟩
   ·show(deadX exts j).blk=_
    unfold deadX;rw[h1]
   ·show(exts.map List.length)[j]?=_
    simp[h1]
  ·obtain⟨cs,h1,L,h2,cur,E0,vs,⟨fz,b1,_⟩,b2,b3,b4⟩:=hboxE j (b,off) hj
   exact⟨cur,cur,E0,fz,b1,b1,rfl,fun _ _=>rfl⟩
  ·obtain⟨cs,p,h3,h4,h5,h6⟩:=live0 id bl h1
   rw[h6]at h2
   have:=List.mem_singleton.1 h2
   subst this
   exact(hS _ hb).2 (by rw[List.append_assoc];exact List.mem_append_left _ (List.mem_map.2 ⟨p,qM1 h4,rfl⟩))
 have hPend:Pend X S (deadX exts) N0 (La++Le.flatten):=by
  refine⟨by rw[List.append_assoc]at hnd;exact(List.nodup_append.1 hnd).2.1,fun x hx hSx=>(hS x hSx).2 (by rw[List.append_assoc];exact List.mem_append_right _ hx),fun x hx=> .inl (by show x∈locs.map (·.1)++La++Le.flatten;rw[List.append_assoc];exact List.mem_append_right _ hx),fun id b hb x hx hxn=> ?_⟩
  obtain⟨cs,p,h1,h2,rfl,h3⟩:=live0 id b hb
  rw[h3]at hxn
  have:=List.mem_singleton.1 hxn
  subst this
  rw[List.append_assoc]at hnd
  exact(List.nodup_append.1 hnd).2.2 _ (List.mem_map.2 ⟨p,qM1 h2,rfl⟩) _ hx rfl
 have hx0:∀i,49<=i->deadX exts i=⟨0,none⟩:=fun i h1=>by unfold deadX;rw[List.getElem?_eq_none (by omega)]
 obtain⟨J1,N1,st1,T1,v1,hh1,hk1⟩:=opnA_spec (i:=0) st0 (by omega) (fun j hj=>hx0 j (by unfold RngA Rng at hj;omega)) (fun p hp=>List.all_eq_true.1 hargs0 p hp) hargs T0 hPend.left
 have hno:∀i,i<90000000->¬RngA 0 args.length i:=fun i hi=>by unfold RngA Rng;omega
 obtain⟨J2,N2,st2,T2⟩:=opnX_spec (xs:=exts) (locs:=locs) (Le:=Le) (base:=80000000) (e:=0) st1 (by omega) (by omega) (by omega) hl1 hl2 hnc
  (fun i hi=>by rw[(hk1 i (by unfold RngA Rng at *;omega)).1];exact hx0 i (by unfold Rng at hi;omega))
  (fun i cs hcs=>by rw[Nat.zero_add,(hk1 i (hno i (by have:=(qS1.1 hcs).1;omega))).1];unfold deadX;rw[hcs])
  (fun i p hp=>by rw[Nat.zero_add,(hk1 i (hno i (by have:=(qS1.1 hp).1;omega))).2];simp[J0,extB,hp])
  (fun cs hcs p hp=>List.all_eq_true.1 (List.all_eq_true.1 hcells cs hcs) p hp) hext (T0.trans T1) (hPend.right hh1)
 obtain⟨st3,T3⟩:=st2.close
 refine⟨J2,N2,fun i u hu=> ?_,st3.blk,st3.lt,st3.nodup,st3.disj,st3.new,st3.ext,st3.rxt,st3.frm,st3.env,st3.fz⟩
 show ValC _ _ _ _ (((opnA 0 args)[i]?).getD .un) u
 by_cases ht:i<args.length
 ·have hu2:us[i]?=some u:=by
   have:tm[i]?=us.toArray[i]?:=Array.getElem?_append_left (by simp;omega)
   rw[this]at hu;simpa using hu
  have hlen2:(opnA 0 args).length=us.length:=v1.len
  obtain⟨u',hu',hv⟩:=v1.get i (opnA 0 args)[i] (by simp[hlen2,hul,ht])
  rw[hu2]at hu';cases hu'
  rw[qE1 (by omega),Option.getD_some]
  exact T3.vc (T2.vc (val1_valC hv))
 ·have hlen2:(opnA 0 args).length=us.length:=v1.len
  rw[List.getElem?_eq_none (by omega)]
  have:tm[i]?=(Array.replicate (nt-us.toArray.size) undef)[i-us.toArray.size]?:=Array.getElem?_append_right (by simp;omega)
  rw[this]at hu
  exact(Array.mem_replicate.1 (Array.mem_of_getElem? hu)).2
theorem All3.lists {α J:Type} {R:α->J->List Nat->Prop}:∀{as:List α} {bs:List J} {L:List Nat},All3 R as bs L->∃Ls:List (List Nat),Ls.flatten=L/\Ls.length=as.length/\∀(i:Nat) a,as[i]?=some a->∃b M,bs[i]?=some b/\Ls[i]?=some M/\R a b M
 | [],[],L,h=>⟨[],h.symm,rfl,fun i a h=>by simp at h⟩
 | a::as,b::bs,L,⟨L1,L2,e,h1,h2⟩=>by
  subst e
  obtain⟨Ls,e1,e2,e3⟩:=All3.lists h2
  refine⟨L1::Ls,by simp[e1],by simp[e2],fun i c hc=> ?_⟩
  cases i with
  | zero=>simp at hc;subst hc;exact⟨b,L1,rfl,rfl,h1⟩
  | succ i=>simpa using e3 i c (by simpa using hc)
 | [],_::_,_,h=>h.elim
 | _::_,[],_,h=>h.elim
section
variable {S:Nat->Prop} {w:World} {J:Nat->Option (Nat×Nat)} {σ:Sto}
theorem own_cells:∀{cs:List PV} {us:List Value} {L:List Nat},All3 (OwnS S w J σ) cs us L->cs.all (fun p=>isOwnR p||noOwnS p)=true->All3 (OwnS S w J σ) (cs.filter isOwnR) (ownCells cs us) L
 | [],[],L,h,_=>h
 | c::cs,u::us,L,⟨L1,L2,e,h1,h2⟩,ha=>by
  subst e
  rw[List.all_cons,Bool.and_eq_true]at ha
  have ih:=own_cells h2 ha.2
  by_cases hr:isOwnR c=true
  ·rw[List.filter_cons_of_pos hr]
   show All3 _ _ (own1V c u++ownCells cs us) _
   rw[show own1V c u=[u] by unfold own1V;rw[hr]]
   exact⟨L1,L2,rfl,h1,ih⟩
  ·rw[List.filter_cons_of_neg hr]
   have hr:isOwnR c=false:=by simpa using hr
   show All3 _ _ (own1V c u++ownCells cs us) _
   rw[show own1V c u=[] by unfold own1V;rw[hr]]
   have:=ha.1
   rw[hr,Bool.false_or]at this
   obtain⟨rfl,-⟩:=own_frozenS (S':=S) (J':=J) (σ':=σ) this h1 fun _ h=>h
   exact ih
 | [],_::_,_,h,_=>h.elim
 | _::_,[],_,h,_=>h.elim
theorem own_args:∀{ps:List PV} {us:List Value} {L:List Nat},All3 (Own1 S w J σ) ps us L->ps.all lendOk=true->All3 (OwnS S w J σ) (ownPs ps) (ownVals ps us) L
 | [],[],L,h,_=>h
 | p::ps,u::us,L,⟨L1,L2,e,h1,h2⟩,ha=>by
  subst e
  rw[List.all_cons,Bool.and_eq_true]at ha
  have ih:=own_args h2 ha.2
  show All3 _ (own1P p++ownPs ps) (own1A p u++ownVals ps us) _
  refine All3.app ?_ ih
  by_cases hagg:∃cs,p= .agg cs
  ·obtain⟨cs,rfl⟩:=hagg
   obtain⟨vs,rfl,h3⟩:=h1
   exact own_cells h3 ha.1
  ·have h1':OwnS S w J σ p u L1:=by cases p<;>first|exact h1|exact absurd ⟨_,rfl⟩ hagg
   have e1:own1P p=[p].filter isOwnR:=by cases p<;>first|rfl|exact absurd ⟨_,rfl⟩ hagg
   have e2:own1A p u=ownCells [p] [u]:=by
    have:own1A p u=own1V p u:=by cases p<;>first|rfl|exact absurd ⟨_,rfl⟩ hagg
    rw[this];show _=own1V p u++ [];rw[List.append_nil]
   rw[e1,e2]
   refine own_cells ⟨L1,[],(List.append_nil _).symm,h1',rfl⟩ ?_
   have:lendOk p=(isOwnR p||noOwnS p):=by cases p<;>first|rfl|exact absurd ⟨_,rfl⟩ hagg
   rw[List.all_cons,List.all_nil,Bool.and_true,<-this]
   exact ha.1
 | [],_::_,_,h,_=>h.elim
 | _::_,[],_,h,_=>h.elim
def LentAt (w:World) (J:Nat->Option (Nat×Nat)) (σ:Sto) (q:Nat) (ps:List PV) (gs:List Value):Prop:=∀(j:Nat) p u,ps[j]?=some p->gs[j]?=some u->RefC w J σ (q+j) 0 0 (plen p) true u
theorem LentAt.left {q:Nat} {ps2:List PV} {gs gs2:List Value} (hl:ps.length=gs.length) (h:LentAt w J σ q (ps++ps2) (gs++gs2)):LentAt w J σ q ps gs:=fun j p u hp hu=>by
 have h1:=(qS1.1 hp).1
 exact h j p u (by rw[List.getElem?_append_left h1];exact hp) (by rw[List.getElem?_append_left (by omega)];exact hu)
theorem LentAt.right {q:Nat} {ps2:List PV} {gs gs2:List Value} (hl:ps.length=gs.length) (h:LentAt w J σ q (ps++ps2) (gs++gs2)):LentAt w J σ (q+ps.length) ps2 gs2:=fun j p u hp hu=>by
 have:=h (ps.length+j) p u (by rw[List.getElem?_append_right (by omega)];simpa using hp) (by rw[List.getElem?_append_right (by omega),hl,Nat.add_sub_cancel_left];exact hu)
 rwa[<-Nat.add_assoc]at this
theorem LentAt.refs:∀{ps:List PV} {gs:List Value} {q:Nat},LentAt w J σ q ps gs->ps.length=gs.length->All2 (ValS S w J σ) (lrefs q ps) gs
 | [],[],_,_,_=>trivial
 | p::ps,u::gs,q,h,hl=>⟨h 0 p u rfl rfl,LentAt.refs (q:=q+1) (fun j p u hp hu=>by rw[show q+1+j=q+(j+1) by omega];exact h (j+1) p u (by simpa using hp) (by simpa using hu)) (by simpa using hl)⟩
 | [],_::_,_,_,h=>by cases h
 | _::_,[],_,_,h=>by cases h
variable {S2:Nat->Prop} {J2:Nat->Option (Nat×Nat)} {σ2:Sto}
theorem lnt_cells (hSS:∀b,S b->S2 b):∀{cs:List PV} {us:List Value} {L:List Nat} {q:Nat},All3 (OwnS S w J σ) cs us L->cs.all (fun p=>isOwnR p||noOwnS p)=true->LentAt w J2 σ2 q (cs.filter isOwnR) (ownCells cs us)->All2 (ValS S2 w J2 σ2) (lntL q cs) us
 | [],[],L,q,h,_,_=>trivial
 | c::cs,u::us,L,q,⟨L1,L2,e,h1,h2⟩,ha,hq=>by
  subst e
  rw[List.all_cons,Bool.and_eq_true]at ha
  have hq':LentAt w J2 σ2 q ((c::cs).filter isOwnR) (own1V c u++ownCells cs us):=hq
  by_cases hr:isOwnR c=true
  ·rw[List.filter_cons_of_pos hr,show own1V c u=[u] by unfold own1V;rw[hr]]at hq'
   have hr':=LentAt.right (ps:=[c]) (gs:=[u]) (ps2:=cs.filter isOwnR) (gs2:=ownCells cs us) rfl hq'
   have ih:=lnt_cells hSS (q:=q+1) h2 ha.2 hr'
   show All2 _ (lntP q c::lntL (match isOwnR c with|true=>q+1|false=>q) cs) _
   rw[hr]
   refine⟨?_,ih⟩
   show ValS _ _ _ _ (lntP q c) u
   rw[show lntP q c= .ref q 0 0 (plen c) true by unfold lntP;rw[hr]]
   exact hq' 0 c u rfl rfl
  ·have hr:isOwnR c=false:=by simpa using hr
   rw[List.filter_cons_of_neg (by simp[hr]),show own1V c u=[] by unfold own1V;rw[hr]]at hq'
   have ih:=lnt_cells hSS (q:=q) h2 ha.2 hq'
   show All2 _ (lntP q c::lntL (match isOwnR c with|true=>q+1|false=>q) cs) _
   rw[hr]
   refine⟨?_,ih⟩
   rw[show lntP q c=c by unfold lntP;rw[hr]]
   have:=ha.1
   rw[hr,Bool.false_or]at this
   exact(own_frozenS (S':=S2) (J':=J2) (σ':=σ2) this h1 hSS).2
 | [],_::_,_,_,h,_,_=>h.elim
 | _::_,[],_,_,h,_,_=>h.elim
theorem lnt_args (hSS:∀b,S b->S2 b):∀{ps:List PV} {us:List Value} {L:List Nat} {q:Nat},All3 (Own1 S w J σ) ps us L->ps.all lendOk=true->LentAt w J2 σ2 q (ownPs ps) (ownVals ps us)->All2 (Val1 S2 w J2 σ2) (lntA q ps) us
 | [],[],L,q,h,_,_=>trivial
 | p::ps,u::us,L,q,⟨L1,L2,e,h1,h2⟩,ha,hq=>by
  subst e
  rw[List.all_cons,Bool.and_eq_true]at ha
  have hq':LentAt w J2 σ2 q (own1P p++ownPs ps) (own1A p u++ownVals ps us):=hq
  by_cases hagg:∃cs,p= .agg cs
  ·obtain⟨cs,rfl⟩:=hagg
   obtain⟨vs,rfl,h3⟩:=h1
   have hl:=(own_cells h3 ha.1).len
   exact⟨⟨vs,rfl,lnt_cells hSS h3 ha.1 (LentAt.left hl hq')⟩,lnt_args hSS h2 ha.2 (LentAt.right hl hq')⟩
  ·have h1':OwnS S w J σ p u L1:=by cases p<;>first|exact h1|exact absurd ⟨_,rfl⟩ hagg
   have e1:own1P p=[p].filter isOwnR:=by cases p<;>first|rfl|exact absurd ⟨_,rfl⟩ hagg
   have e2:own1A p u=ownCells [p] [u]:=by
    have:own1A p u=own1V p u:=by cases p<;>first|rfl|exact absurd ⟨_,rfl⟩ hagg
    rw[this];show _=own1V p u++ [];rw[List.append_nil]
   have e3:lnt1 q p=lntP q p:=by cases p<;>first|rfl|exact absurd ⟨_,rfl⟩ hagg
   have ha1:[p].all (fun p=>isOwnR p||noOwnS p)=true:=by
    have:lendOk p=(isOwnR p||noOwnS p):=by cases p<;>first|rfl|exact absurd ⟨_,rfl⟩ hagg
    rw[List.all_cons,List.all_nil,Bool.and_true,<-this]
    exact ha.1
   have h1l:All3 (OwnS S w J σ) [p] [u] L1:=⟨L1,[],(List.append_nil _).symm,h1',rfl⟩
   rw[e1,e2]at hq'
   have hl:=(own_cells h1l ha1).len
   have k1:=lnt_cells hSS h1l ha1 (LentAt.left hl hq')
   have k2:=lnt_args hSS h2 ha.2 (LentAt.right hl hq')
   refine⟨?_,by rw[e1];exact k2⟩
   rw[e3]
   have k3:ValS S2 w J2 σ2 (lntP q p) u:=k1.1
   unfold lntP at k3⊢
   split
   ·rename_i hr;rw[hr]at k3;exact k3
   ·rename_i hr
    rw[hr]at k3
    cases p<;>first|exact k3|exact absurd ⟨_,rfl⟩ hagg
 | [],_::_,_,_,h,_,_=>h.elim
 | _::_,[],_,_,h,_,_=>h.elim
end
theorem lnt_len:∀(ps:List PV) (q:Nat),(lntA q ps).length=ps.length
 | [],_=>rfl
 | p::ps,q=>by show(lntA _ ps).length+1=_;rw[lnt_len ps];rfl
theorem init_lend {E:World->Prop} {args:List PV} {exts:List (List PV)} {rx:Nat->Option (Value×Nat)} {few:locs.length<=49} {hG:∀b∈locs.map (·.1)++La++Le.flatten,G<=b} {hw:G<=w.heap.size} {cl:∀w w':World,E w->(∀b,b<G->w'.heap[b]?=w.heap[b]?)->E w'}
  {X:Ctx} (hX:X= {w0:=w,F:=locs.map (·.1)++La++Le.flatten,ext:=locs,lens:=exts.map List.length,E:=E,S:=S,few:=few,rx:=rx,G:=G,hG:=hG,hw:=hw,cl:=cl}) (hE:E w)
  (hl1:locs.length=exts.length) (hl2:Le.length=exts.length) (hnd:(locs.map (·.1)++La++Le.flatten).Nodup) (hF0:∀b∈locs.map (·.1)++La++Le.flatten,G<=b/\b<w.heap.size) (hS:∀b,S b->b<w.heap.size/\b∉locs.map (·.1)++La++Le.flatten)
  (hargs:All3 (Own1 S w (extB locs) (extS exts)) args us La) (hext:∀(j:Nat) p cs L,locs[j]?=some p->exts[j]?=some cs->Le[j]?=some L->BoxO S w (extB locs) (extS exts) p cs L)
  (hlo:args.all lendOk=true) (hle:exts=[]) (hno:(ownPs args).length<=48) {nt:Nat} (hlen:args.length<=nt) (hrx:rx=fun q=>((ownVals args us)[q]?).bind fun u=>((ownPs args)[q]?).map fun p=>(u,plen p)) :
  ∃J N,St X (initX true args exts) w (us.toArray++Array.replicate (nt-us.toArray.size) undef) J N:=by
 subst hX
 subst hle
 obtain rfl:locs=[]:=List.eq_nil_of_length_eq_zero hl1
 obtain rfl:Le=[]:=List.eq_nil_of_length_eq_zero hl2
 simp only[List.map_nil,List.nil_append,List.flatten_nil,List.append_nil]at hnd hF0 hS
 let X:Ctx:= {w0:=w,F:=List.map (·.1) ([]:List (Nat×Nat))++La++List.flatten [],ext:=[],lens:=List.map List.length ([]:List (List PV)),E:=E,S:=S,few:=few,rx:=rx,G:=G,hG:=hG,hw:=hw,cl:=cl}
 have hXF:X.F=La:=by show List.map (·.1) ([]:List (Nat×Nat))++La++List.flatten []=La;simp
 have ho:=own_args hargs hlo
 obtain⟨Ls,e1,e2,e3⟩:=ho.lists
 have hgl:=ho.len
 let ps:=ownPs args
 let gs:=ownVals args us
 have hps:∀p∈ps,isOwnR p=true:=by
  have:∀as:List PV,∀p∈ownPs as,isOwnR p=true:=by
   intro as
   induction as with
   | nil=>intro p hp;cases hp
   | cons a as ih=>
    intro p hp
    rcases List.mem_append.1 hp with hp|hp
    ·cases a<;>exact(List.mem_filter.1 hp).2
    ·exact ih p hp
  exact this args
 let J:Nat->Option (Nat×Nat):=fun j=>match Nat.ble 50 j with
  | true=>(match gs[j-50]? with
   | some (.slice (some a) _ _)=>some (a.block,0)
   | _=>none)
  | false=>none
 let N:Nat->List Nat:=fun j=>(Ls[j-50]?).getD []
 have live:∀id b,(lntS ps id).blk=some b->∃q p u M,id=50+q/\ps[q]?=some p/\gs[q]?=some u/\Ls[q]?=some M/\OwnS S w (extB []) (extS []) p u M/\lntB p=some b/\isOwnR p=true/\lntS ps id=⟨0,some b⟩:=fun id b hb=>by
  unfold lntS at hb
  split at hb
  ·rename_i h50
   have h50:=Nat.le_of_ble_eq_true h50
   split at hb
   ·rename_i p hp
    obtain⟨u,M,q1,q2,q3⟩:=e3 _ _ hp
    refine⟨id-50,p,u,M,by omega,hp,q1,q2,q3,hb,hps p (qM1 hp),?_⟩
    unfold lntS
    rw[show Nat.ble 50 id=true from Nat.ble_eq▸h50]
    simp only[hp]
    rw[show lntB p=some b from hb]
   ·cases hb
  ·cases hb
 have hbeta:∀q u,gs[q]?=some u->J (50+q)=match u with
   | .slice (some a) _ _=>some (a.block,0)
   | _=>none:=fun q u hu=>by
  show(match Nat.ble 50 (50+q)with|true=>_|false=>_)=_
  rw[show Nat.ble 50 (50+q)=true from Nat.ble_eq▸(by omega)]
  simp only[Nat.add_sub_cancel_left,hu]
  cases u<;>try rfl
  rename_i a _ _;cases a<;>rfl
 have hrow:∀q p u M,gs[q]?=some u->OwnS S w (extB []) (extS []) p u M->isOwnR p=true->∃blk k l,lntB p=some blk/\IsRow blk k l/\l.length=plen p/\(∀σ,BlkC S w J σ M (50+q) blk)/\((J (50+q)=none/\l=[]/\u= .slice none 0 0)∨∃b cap cur,J (50+q)=some (b,0)/\u= .slice (some ⟨b,0,none⟩) l.length cap/\RowAt w b cur (tid k)/\l.length<=cap/\cur.size=cap*size k):=fun q p u M hu ho hr=>by
  have hb:=hbeta q u hu
  rcases isOwnR_cases hr with⟨k,l,rfl⟩ |⟨k,l,rfl⟩
  ·refine⟨_,k,l,rfl,.b,rfl,fun σ=> ?_,?_⟩
   ·rcases ho with⟨rfl,h1,h2⟩ |⟨g,cap,cur,rfl,h2,h3⟩
    ·exact .inl ⟨hb,h1,h2⟩
    ·exact .inr ⟨g,cap,cur,hb,h2,h3⟩
   ·rcases ho with⟨rfl,h1,h2⟩ |⟨g,cap,cur,rfl,h2,h3,h4,h5,h6,h7,h8⟩
    ·exact .inl ⟨hb,h1,rfl⟩
    ·exact .inr ⟨g,cap,cur,hb,rfl,h4,h5,h7⟩
  ·refine⟨_,k,l,rfl,.d,rfl,fun σ=> ?_,?_⟩
   ·rcases DOwn_iff.1 ho with⟨rfl,h1,h2⟩ |⟨g,cap,cur,L',rfl,h2,h3⟩
    ·exact .inl ⟨hb,h1,h2⟩
    ·exact .inr ⟨g,cap,cur,L',hb,h2,h3⟩
   ·rcases DOwn_iff.1 ho with⟨rfl,h1,h2⟩ |⟨g,cap,cur,L',rfl,h2,h3,h4,h5,h6,h7,h8⟩
    ·exact .inl ⟨hb,h1,rfl⟩
    ·exact .inr ⟨g,cap,cur,hb,rfl,h4,h5,h7⟩
 have hLs:Ls.flatten.Nodup:=by rw[e1];exact hnd
 have hN:∀q M,Ls[q]?=some M->N (50+q)=M:=fun q M h=>by show(Ls[50+q-50]?).getD []=M;rw[Nat.add_sub_cancel_left,h];rfl
 have hM:∀q M,Ls[q]?=some M->∀x∈M,x∈La:=fun q M h x hx=>by rw[<-e1];exact List.mem_flatten.2 ⟨M,qM1 h,hx⟩
 have st0:StS X S ⟨fun _=> .dead,lntS ps⟩ w (us.toArray++Array.replicate (nt-us.toArray.size) undef) J N:=by
  refine⟨fun t u hu=>trivial,fun id b hb=> ?_,fun id b hb x hx=> ?_,fun id b hb=> ?_,fun id id' b b' hb hb' hne x hx hx'=> ?_,fun id b hb x hx=> ?_,(fun j p hp=>by cases hp),fun q u n hq=> ?_,⟨rfl,rfl,rfl,Nat.le_refl _,fun _ _ _=>rfl,(fun j b off n hj hn=>by cases hj)⟩,hE,fun b hb=>⟨(hS b hb).1,fun⟨id,bl,h1,h2⟩=> ?_,.inl hb⟩⟩
  ·obtain⟨q,p,u,M,rfl,h1,h2,h3,h4,h5,h6,h7⟩:=live id b hb
   obtain⟨blk,k,l,k1,k2,k3,k4,k5⟩:=hrow q p u M h2 h4 h6
   rw[h5]at k1;cases k1
   rw[hN q M h3]
   exact k4 _
  ·obtain⟨q,p,u,M,rfl,h1,h2,h3,h4,h5,h6,h7⟩:=live id b hb
   rw[hN q M h3]at hx
   exact(hF0 x (hM q M h3 x hx)).2
  ·obtain⟨q,p,u,M,rfl,h1,h2,h3,h4,h5,h6,h7⟩:=live id b hb
   rw[hN q M h3]
   exact(List.pairwise_flatten.1 hLs).1 M (qM1 h3)
  ·obtain⟨q,p,u,M,rfl,h1,h2,h3,h4,h5,h6,h7⟩:=live id b hb
   obtain⟨q',p',u',M',rfl,h1',h2',h3',h4',h5',h6',h7'⟩:=live id' b' hb'
   rw[hN q M h3]at hx
   rw[hN q' M' h3']at hx'
   have hp:=(List.pairwise_flatten.1 hLs).2
   have hql:=(qS1.1 h3).1
   have hql':=(qS1.1 h3').1
   have ev:Ls[q]=M:=by simpa [hql]using h3
   have ev':Ls[q']=M':=by simpa [hql']using h3'
   rcases Nat.lt_or_gt_of_ne (show q≠q' by omega)with hlt|hlt
   ·exact(List.pairwise_iff_getElem.1 hp q q' hql hql' hlt) x (ev▸hx) x (ev'▸hx') rfl
   ·exact(List.pairwise_iff_getElem.1 hp q' q hql' hql hlt) x (ev'▸hx') x (ev▸hx) rfl
  ·obtain⟨q,p,u,M,rfl,h1,h2,h3,h4,h5,h6,h7⟩:=live id b hb
   rw[hN q M h3]at hx
   exact .inl (by rw[hXF];exact hM q M h3 x hx)
  ·have hq:rx q=some (u,n):=hq
   rw[hrx]at hq
   simp only[Option.bind_eq_some_iff,Option.map_eq_some_iff]at hq
   obtain⟨u0,hu0,p,hp,hq⟩:=hq
   cases hq
   obtain⟨u',M,q1,q2,q3⟩:=e3 _ _ hp
   rw[show(ownVals args us)[q]?=some u from hu0]at q1;cases q1
   have hql:=(qS1.1 hp).1
   obtain⟨blk,k,l,k1,k2,k3,k4,k5⟩:=hrow q p u M hu0 q3 (hps p (qM1 hp))
   have hs:lntS ps (50+q)=⟨0,some blk⟩:=by
    unfold lntS
    rw[show Nat.ble 50 (50+q)=true from Nat.ble_eq▸(by omega)]
    simp only[Nat.add_sub_cancel_left,show ps[q]?=some p from hp,k1]
   refine⟨by omega,blk,k,l,hs,k2,k3,?_⟩
   rw[<-k3]
   exact ref_full hs k2 k5
  ·obtain⟨q,p,u,M,rfl,h3,h4,h5,h6,h7⟩:=live id bl h1
   rw[hN q M h5]at h2
   exact(hS b hb).2 (hM q M h5 b h2)
 obtain⟨st3,T3⟩:=st0.close
 have hlent:LentAt w J (lntS ps) 50 ps gs:=fun j p u hp hu=>by
  obtain⟨_,blk,k,l,k1,k2,k3,k4⟩:=st0.rxt j u (plen p) (by
   show rx j=_
   rw[hrx]
   simp only[show(ownVals args us)[j]?=some u from hu,show(ownPs args)[j]?=some p from hp]
   rfl)
  exact k4
 have v1:=lnt_args (S2:=S) (fun b hb=>hb) hargs hlo hlent
 have hul:us.length=args.length:=(All3.len hargs).symm
 refine⟨J,N,fun i u hu=> ?_,st3.blk,st3.lt,st3.nodup,st3.disj,st3.new,st3.ext,st3.rxt,st3.frm,st3.env,st3.fz⟩
 show ValC _ _ _ _ (((lntA 50 args)[i]?).getD .un) u
 have hlen2:=lnt_len args 50
 by_cases ht:i<args.length
 ·have hu2:us[i]?=some u:=by
   have:(us.toArray++Array.replicate (nt-us.toArray.size) undef)[i]?=us.toArray[i]?:=Array.getElem?_append_left (by simp;omega)
   rw[this]at hu;simpa using hu
  obtain⟨u',hu',hv⟩:=v1.get i (lntA 50 args)[i] (by simp[hlen2,ht])
  rw[hu2]at hu';cases hu'
  rw[qE1 (by omega),Option.getD_some]
  exact T3.vc (val1_valC hv)
 ·rw[List.getElem?_eq_none (by omega)]
  have:(us.toArray++Array.replicate (nt-us.toArray.size) undef)[i]?=(Array.replicate (nt-us.toArray.size) undef)[i-us.toArray.size]?:=Array.getElem?_append_right (by simp;omega)
  rw[this]at hu
  exact(Array.mem_replicate.1 (Array.mem_of_getElem? hu)).2
theorem lrefs_len:∀(ps:List PV) (q:Nat),(lrefs q ps).length=ps.length
 | [],_=>rfl
 | p::ps,q=>by show(lrefs _ ps).length+1=_;rw[lrefs_len ps];rfl
theorem ownG_of {gs:List Value} (h:OwnV S w J σ p u L):OwnG S w J σ gs p u L:=by
 cases p<;>first|exact h|exact h.2.elim
theorem PCalls.mk (hF:Facts P) {E:World->Prop} (hcl:∀w w':World,E w->(∀b,b<G->w'.heap[b]?=w.heap[b]?)->E w') {fn:Func} {c:Code} (hf:P.funcs[f]?=some fn) (hname:(fn.name== "runtime.NumGoroutine")=false) (hb:fn.body=some c) {ln:Bool} {args rT bT:List PV} {exts:List (List PV)} (hok:lentOk ln args exts.length=true) (hcells:exts.all (fun cs=>cs.all cellOk)=true) (hlen:args.length<=fn.ntmps) (hne:exts.length<=49) (hnc:∀cs∈exts,cs.length<=1000) (hal:args.length<=1000)
  (h:∀X:Ctx,X.E=E->X.ext.length=exts.length->X.G=G->(∀q u n,X.rx q=some (u,n)->q<(lentL ln args).length)->XW P X fn.ntmps c (initX ln args exts) (retX fn.ntmps fn.results.toList exts.length (lentL ln args) rT bT exts')) (hel:exts'.map List.length=exts.map List.length):PCalls P G E f args exts (gbIf ln (oneOr rT) bT) exts':=by
 refine⟨hel,fun w S us locs La Le hG hE hl1 hl2 hnd hF0 hS hargs hext=> ?_⟩
 have hul:us.length=args.length:=(All3.len hargs).symm
 let rx:Nat->Option (Value×Nat):=match ln with
  | true=>fun q=>((ownVals args us)[q]?).bind fun u=>((ownPs args)[q]?).map fun p=>(u,plen p)
  | false=>fun _=>none
 let X:Ctx:= {w0:=w,F:=locs.map (·.1)++La++Le.flatten,ext:=locs,lens:=exts.map List.length,E:=E,S:=S,few:=by omega,rx:=rx,G:=G,hG:=fun b hb=>(hF0 b hb).1,hw:=hG,cl:=hcl}
 have hlocnd:(locs.map (·.1)).Nodup:=by rw[List.append_assoc]at hnd;exact(List.nodup_append.1 hnd).1
 have hlend:ln=true->args.all lendOk=true/\(ownPs args).length<=48/\exts.length=0:=fun e=>by
  subst e
  have hok:(args.all lendOk&&Nat.ble (ownPs args).length 48&&Nat.beq exts.length 0)=true:=hok
  simp only[Bool.and_eq_true]at hok
  exact⟨hok.1.1,Nat.le_of_ble_eq_true hok.1.2,Nat.eq_of_beq_eq_true hok.2⟩
 obtain⟨J2,N2,hst⟩:∃J N,St X (initX ln args exts) w (us.toArray++Array.replicate (fn.ntmps-us.toArray.size) undef) J N:=by
  cases ln with
  | false=>exact init_take (rx:=rx) rfl hE hl1 hl2 hnd hF0 hS hargs hext hok hcells hlen hne hnc hal rfl
  | true=>
   obtain⟨q1,q2,q3⟩:=hlend rfl
   exact init_lend (rx:=rx) rfl hE hl1 hl2 hnd hF0 hS hargs hext q1 (List.eq_nil_of_length_eq_zero q3) q2 hlen rfl
 have hrxl:∀q u n,X.rx q=some (u,n)->q<(lentL ln args).length:=fun q u n hq=>by
  cases ln with
  | false=>cases hq
  | true=>
   have hq:(((ownVals args us)[q]?).bind fun u=>((ownPs args)[q]?).map fun p=>(u,plen p))=some (u,n):=hq
   simp only[Option.bind_eq_some_iff,Option.map_eq_some_iff]at hq
   obtain⟨u0,hu0,p,hp,hq⟩:=hq
   show q<(lrefs 50 (ownPs args)).length
   rw[lrefs_len]
   exact(qS1.1 hp).1
 refine Arrive.of hf hname hb (calls_of_wp hf hb (wp_mono (h X rfl hl1 rfl hrxl _ w ⟨by simp;omega,rfl,J2,N2,hst⟩) fun e a' w' hq=> ?_))
 obtain⟨Z',⟨hs',hd',J,N,hst'⟩,hret⟩:=hq
 have hgs:∃gs,All2 (ValS (Fz X w' N Z'.s) w' J Z'.s) (lentL ln args) gs/\(ln=true->gs=ownVals args us):=by
  cases ln with
  | false=>exact⟨[],trivial,fun h=>by cases h⟩
  | true=>
   obtain⟨q1,q2,q3⟩:=hlend rfl
   have ho:=own_args hargs q1
   refine⟨ownVals args us,LentAt.refs (fun j p u hp hu=> ?_) ho.len,fun _=>rfl⟩
   exact(hst'.rxt j u (plen p) (by
    show(((ownVals args us)[j]?).bind fun u=>((ownPs args)[j]?).map fun p=>(u,plen p))=_
    rw[hu,hp];rfl)).2.choose_spec.choose_spec.choose_spec.2.2.2
 obtain⟨gs,hgs1,hgs2⟩:=hgs
 cases e
 case exit=>exact hret.elim
 case goto=>exact hret.elim
 case panic=>exact hret.elim
 case outgrown=>exact hret.elim
 all_goals
  obtain⟨vs,cs,qs,A,B,h1,h2,h3,h4,h5,h6⟩:=hret
  obtain⟨us',hus,hall'⟩:=resL_run hF hst' hs' h1
  refine⟨hd',_,results_run hus,?_⟩
  obtain⟨L1,L3,Le',k1,k2,k3,k4,k5,k6,k7⟩:=exit_out hl1 hlocnd hel rfl hst' hgs1 hall' h2 h3 h4 h5 h6
  cases ln with
  | false=>
   have hg0:gs.length=0:=(All2.len hgs1).symm
   obtain rfl:=List.eq_nil_of_length_eq_zero hg0
   obtain rfl:=List.eq_nil_of_length_eq_zero (All3.len k5)
   obtain rfl:L3=[]:=k5
   rw[List.append_nil]at k2 k3 k4 k6
   exact⟨_,L1,Le',rfl,k1,k2,k3,ownG_of k4,k6,k7⟩
  | true=>
   refine⟨_,L1++L3,Le',rfl,k1,k2,k3,⟨L1,L3,rfl,k4,?_⟩,k6,k7⟩
   rw[hgs2 rfl]at k5
   exact k5
end
open Go.RowKit
section
variable {w:World} {J:Nat->Option (Nat×Nat)} {σ:Sto}
theorem Own1.tr (T:Tr S S' w w J J' σ σ') (hS:∀b,S b->S' b) (h:OwnS S w J σ p u L):OwnS S' w J' σ' p u L:=by
 cases p with
 | row own k l=>cases own with
  | true=>exact Own.mono h (fun _ _=>rfl) hS fun _ _ _ _ h=>h
  | false=>exact⟨h.1,T.vs h.2⟩
 | v x=>exact⟨h.1,T.vs (p:= .v x) h.2⟩
 | nil=>exact⟨h.1,T.vs (p:= .nil) h.2⟩
 | ref a b c d e=>exact⟨h.1,T.vs (p:= .ref a b c d e) h.2⟩
 | ptr a b c d=>exact⟨h.1,T.vs (p:= .ptr a b c d) h.2⟩
 | eptr k l i j=>exact⟨h.1,T.vs (p:= .eptr k l i j) h.2⟩
 | agg cs=>exact⟨h.1,T.vs (p:= .agg cs) h.2⟩
 | tup cs=>exact⟨h.1,T.vs (p:= .tup cs) h.2⟩
 | fn f caps=>exact⟨h.1,T.vs (p:= .fn f caps) h.2⟩
 | un=>exact⟨h.1,T.vs (p:= .un) h.2⟩
 | obj o=>exact h
 | drow k l=>exact h
 | gb r b=>exact⟨h.1,T.vs (p:= .gb r b) h.2⟩
 | dead=>exact⟨h.1,trivial⟩
theorem Own1.tr1 (T:Tr S S' w w J J' σ σ') (hS:∀b,S b->S' b) (h:Own1 S w J σ p u L):Own1 S' w J' σ' p u L:=by
 by_cases ha:∃cs,p= .agg cs
 ·obtain⟨cs,rfl⟩:=ha
  obtain⟨us,e,h⟩:=h
  exact⟨us,e,All3.mono (fun a b L' _ h=>Own1.tr T hS h) h⟩
 ·have h':OwnS S w J σ p u L:=by cases p<;>first|exact h|exact absurd ⟨_,rfl⟩ ha
  have:=Own1.tr T hS h'
  cases p<;>first|exact this|exact absurd ⟨_,rfl⟩ ha
theorem extS_tr {exts exts2:List (List PV)} (hl:exts2.length=exts.length):Tr S S w w (extB locs) (extB locs) (extS exts) (extS exts2):=by
 refine⟨fun h=>h,fun{id ver off n full u} hr=> ?_,fun{id ver i j u} hp=> ?_⟩
 ·obtain⟨h1,h2,h3⟩:=hr
  refine⟨?_,h2,fun blk k l e hr=> ?_⟩
  ·have:(extS exts id).ver=0:=by unfold extS;split<;>rfl
   rw[this]at h1
   have e2:(extS exts2 id).ver=0:=by unfold extS;split<;>rfl
   rw[e2];exact h1
  ·unfold extS at e;split at e<;>cases e<;>cases hr
 ·obtain⟨h1,h2,h3⟩:=hp
  refine⟨?_,h2,fun blk e=> ?_⟩
  ·have:(extS exts id).ver=0:=by unfold extS;split<;>rfl
   rw[this]at h1
   have e2:(extS exts2 id).ver=0:=by unfold extS;split<;>rfl
   rw[e2];exact h1
  ·unfold extS at e
   split at e
   ·rename_i cs hcs
    cases e
    have hj:=(qS1.1 hcs).1
    have:=h3 (.box (exts[id]'(by omega))) (by unfold extS;rw[qE1 (by omega)])
    exact this
   ·cases e
theorem boxes_wk {S:Nat->Prop}:∀{exts exts2:List (List PV)} {Le:List (List Nat)} {locs:List (Nat×Nat)},Le.length=exts.length->Le.flatten.Nodup->All2 (All2 wkS) exts exts2->
  (∀(j:Nat) p cs L,locs[j]?=some p->exts[j]?=some cs->Le[j]?=some L->BoxO S w J σ p cs L)->locs.length=exts.length->
  ∃Le':List (List Nat),Le'.length=Le.length/\Le'.flatten.Sublist Le.flatten/\∀S2:Nat->Prop,(∀b,S b->S2 b)->(∀b∈Le.flatten,b∉Le'.flatten->S2 b)->
   ∀(j:Nat) p cs L,locs[j]?=some p->exts2[j]?=some cs->Le'[j]?=some L->BoxO S2 w J σ p cs L
 | [],exts2,Le,locs,hl,_,hx,_,_=>by
  obtain rfl:Le=[]:=List.eq_nil_of_length_eq_zero hl
  exact⟨[],rfl,List.nil_sublist _,fun _ _ _ j p cs L _ _ h=>by simp at h⟩
 | c::exts,c2::exts2,L::Le,p::locs,hl,hn,⟨h1,h2⟩,hb,hll=>by
  rw[List.flatten_cons]at hn
  obtain⟨n1,n2,n3⟩:=List.nodup_append.1 hn
  obtain⟨Le',q1,q2,q3⟩:=boxes_wk (by simpa using hl) n2 h2 (fun j p cs L a b c=>hb (j+1) p cs L (by simpa using a) (by simpa using b) (by simpa using c)) (by simpa using hll)
  obtain⟨cur,E,us,b1,b2,b3,b4⟩:=hb 0 p c L rfl rfl rfl
  obtain⟨L',s,k⟩:=All3.wk (R:=fun S p u L=>OwnS S w J σ p u L) (fun p q u L hn h ho=>wkS_own hn h ho) n1 h1 b4
  refine⟨L'::Le',by simp[q1],by simpa using s.append q2,fun S2 hS hd j p' cs M hp hc hM=> ?_⟩
  have hd1:∀b∈L,b∉L'->S2 b:=fun b hb hb'=>hd b (by simp[hb]) (by
   rw[List.flatten_cons,List.mem_append]
   rintro(h|h)
   ·exact hb' h
   ·exact n3 b hb b (q2.mem h) rfl)
  cases j with
  | zero=>
   simp at hp hc hM;subst hp hc hM
   exact⟨cur,E,us,b1,by rw[<-All2.len h1];exact b2,b3,k S2 hS hd1⟩
  | succ j=>exact q3 S2 hS (fun b hb hb'=>hd b (by simp[List.mem_flatten.1 hb]) (by
    rw[List.flatten_cons,List.mem_append]
    rintro(h|h)
    ·exact n3 b (s.mem h) b hb rfl
    ·exact hb' h)) j p' cs M (by simpa using hp) (by simpa using hc) (by simpa using hM)
 | _::_,[],_,_,_,_,h,_,_=>h.elim
 | _::_,_::_,[],_,h,_,_,_,_=>by cases h
 | _::_,_::_,_::_,[],_,_,_,_,h=>by cases h
end
theorem All2.lens:∀{a b:List (List PV)},All2 (All2 wkS) a b->b.map List.length=a.map List.length
 | [],[],_=>rfl
 | _::_,_::_,⟨h1,h2⟩=>by simp[All2.len h1,All2.lens h2]
 | [],_::_,h=>h.elim
 | _::_,[],h=>h.elim
def sig1:PV->Bool×List Bool
 | .agg cs=>(true,cs.map isOwnR)
 | p=>(false,[isOwnR p])
theorem sig_cells:∀{cs ds:List PV} {us:List Value},cs.map isOwnR=ds.map isOwnR->ownCells cs us=ownCells ds us
 | [],[],_,_=>by cases ‹List Value› <;>rfl
 | c::cs,d::ds,[],_=>rfl
 | c::cs,d::ds,u::us,h=>by
  simp only[List.map_cons,List.cons.injEq]at h
  show own1V c u++ownCells cs us=own1V d u++ownCells ds us
  rw[sig_cells h.2]
  unfold own1V
  rw[h.1]
 | [],_::_,_,h=>by cases h
 | _::_,[],_,h=>by cases h
theorem sig_vals:∀{as bs:List PV} {us:List Value},as.map sig1=bs.map sig1->ownVals as us=ownVals bs us
 | [],[],us,_=>by cases us<;>rfl
 | a::as,b::bs,[],_=>rfl
 | a::as,b::bs,u::us,h=>by
  simp only[List.map_cons,List.cons.injEq]at h
  show own1A a u++ownVals as us=own1A b u++ownVals bs us
  rw[sig_vals h.2]
  congr 1
  have h1:=h.1
  by_cases ha:∃cs,a= .agg cs
  ·obtain⟨cs,rfl⟩:=ha
   have hb:∃ds,b= .agg ds:=by cases b<;>first|exact⟨_,rfl⟩ | cases h1
   obtain⟨ds,rfl⟩:=hb
   have h1:cs.map isOwnR=ds.map isOwnR:=by injection h1
   cases u<;>first|exact sig_cells h1|rfl
  ·have hb:¬∃ds,b= .agg ds:=by
    rintro⟨ds,rfl⟩
    cases a<;>first|exact ha ⟨_,rfl⟩ | cases h1
   have e1:isOwnR a=isOwnR b:=by
    have e2:sig1 a=(false,[isOwnR a]):=by cases a<;>first|rfl|exact absurd ⟨_,rfl⟩ ha
    have e3:sig1 b=(false,[isOwnR b]):=by cases b<;>first|rfl|exact absurd ⟨_,rfl⟩ hb
    rw[e2,e3]at h1
    simpa using h1
   have e2:own1A a u=own1V a u:=by cases a<;>first|rfl|exact absurd ⟨_,rfl⟩ ha
   have e3:own1A b u=own1V b u:=by cases b<;>first|rfl|exact absurd ⟨_,rfl⟩ hb
   rw[e2,e3]
   unfold own1V
   rw[e1]
 | [],_::_,_,h=>by cases h
 | _::_,[],_,h=>by cases h
theorem OwnG.up {S1 S2:Nat->Prop} {w:World} {J:Nat->Option (Nat×Nat)} {σ:Sto} {gs:List Value} {p:PV} {u:Value} {L:List Nat} (h:OwnG S1 w J σ gs p u L) (hS:∀b,S1 b->S2 b):OwnG S2 w J σ gs p u L:=by
 by_cases ha:∃r b,p= .gb r b
 ·obtain⟨r,b,rfl⟩:=ha
  obtain⟨L1,L2,e,h1,h2⟩:=h
  exact⟨L1,L2,e,h1.up hS,All3.mono (fun a b L' _ h=>OwnS.up h hS) h2⟩
 ·have h':OwnV S1 w J σ p u L:=by cases p<;>first|exact h|exact absurd ⟨_,_,rfl⟩ ha
  have:=OwnV.up h' hS
  cases p<;>first|exact this|exact absurd ⟨_,_,rfl⟩ ha
theorem OwnG.gs {S1:Nat->Prop} {w:World} {J:Nat->Option (Nat×Nat)} {σ:Sto} {gs gs':List Value} {p:PV} {u:Value} {L:List Nat} (h:OwnG S1 w J σ gs p u L) (hg:isGb p=false∨gs=gs'):OwnG S1 w J σ gs' p u L:=by
 rcases hg with hg|rfl
 ·cases p<;>first|exact h|cases hg
 ·exact h
theorem PCalls.argsX {P:Program} {E:World->Prop} {as bs:List PV} {exts exts2:List (List PV)} {r:PV} (h:PCalls P G E f bs exts2 r exts') (hw:All2 wk1 as bs) (hx:All2 (All2 wkS) exts exts2) (hg:isGb r=false∨as.map sig1=bs.map sig1):PCalls P G E f as exts r exts':=by
 have hlen:=hx.lens
 have hxl:exts2.length=exts.length:=by have:=congrArg List.length hlen;simpa using this
 refine⟨by rw[h.1,hlen],fun w S us locs La Le hG hE hl1 hl2 hnd hF0 hS hargs hext=> ?_⟩
 have hnd':=hnd
 rw[List.append_assoc]at hnd'
 obtain⟨m1,m2,m3⟩:=List.nodup_append.1 hnd'
 obtain⟨m4,m5,m6⟩:=List.nodup_append.1 m2
 obtain⟨La',s1,k1⟩:=All3.wk (R:=fun S p u L=>Own1 S w (extB locs) (extS exts) p u L) (fun p q u L hn h ho=>wk1_own hn h ho) m4 hw hargs
 obtain⟨Le',q1,s2,k2⟩:=boxes_wk hl2 m5 hx hext hl1
 let S2:Nat->Prop:=fun b=>S b∨(b∈La++Le.flatten/\b∉La'++Le'.flatten)
 have hsub:(La'++Le'.flatten).Sublist (La++Le.flatten):=s1.append s2
 have hsub2:(locs.map (·.1)++La'++Le'.flatten).Sublist (locs.map (·.1)++La++Le.flatten):=by
  rw[List.append_assoc,List.append_assoc];exact(List.Sublist.refl _).append hsub
 have d1:∀b∈La,b∉La'->S2 b:=fun b hb hb'=> .inr ⟨List.mem_append_left _ hb,fun h=>(List.mem_append.1 h).elim hb' fun h=>m6 b hb b (s2.mem h) rfl⟩
 have d2:∀b∈Le.flatten,b∉Le'.flatten->S2 b:=fun b hb hb'=> .inr ⟨List.mem_append_right _ hb,fun h=>(List.mem_append.1 h).elim (fun h=>m6 b (s1.mem h) b hb rfl) hb'⟩
 have T:Tr S2 S2 w w (extB locs) (extB locs) (extS exts) (extS exts2):=extS_tr hxl
 have hS2:∀b,S2 b->b<w.heap.size/\b∉locs.map (·.1)++La'++Le'.flatten:=by
  rintro b (hb|⟨hb,hb'⟩)
  ·exact⟨(hS b hb).1,fun h=>(hS b hb).2 (hsub2.mem h)⟩
  ·refine⟨(hF0 b (by rw[List.append_assoc];exact List.mem_append_right _ hb)).2,fun h=> ?_⟩
   rw[List.append_assoc]at h
   rcases List.mem_append.1 h with h|h
   ·exact m3 b h b hb rfl
   ·exact hb' h
 refine Arrive.mono (h.2 w S2 us locs La' Le' hG hE (by rw[hl1,hxl]) (by rw[q1,hl2,hxl]) (hsub2.nodup hnd) (fun b hb=>hF0 b (hsub2.mem hb)) hS2 (All3.mono (fun a b L' _ h=>Own1.tr1 T (fun _ h=>h) h) (k1 S2 (fun _ h=> .inl h) d1)) fun j p cs L hp hc hL=> ?_) fun e w' hq=> ?_
 ·obtain⟨cur,E0,us0,b1,b2,b3,b4⟩:=k2 S2 (fun _ h=> .inl h) d2 j p cs L hp hc hL
  exact⟨cur,E0,us0,b1,b2,b3,All3.mono (fun a b L' _ h=>Own1.tr T (fun _ h=>h) h) b4⟩
 ·obtain⟨u,Lr,Le2,e1,e2,e3,e4,e5,e6,e7⟩:=hq
  have up:∀b,S2 b∨b∈La'++Le'.flatten∨w.heap.size<=b->S b∨b∈La++Le.flatten∨w.heap.size<=b:=by
   rintro b ((h|h)|h|h)
   ·exact .inl h
   ·exact .inr (.inl h.1)
   ·exact .inr (.inl (hsub.mem h))
   ·exact .inr (.inr h)
  refine⟨u,Lr,Le2,e1,by rw[e2,hxl],e3,fun b hb=> ?_,(e5.up fun b hb=>⟨up b hb.1,hb.2⟩).gs (hg.imp id fun h=>(sig_vals h).symm),fun j p cs L hp hc hL=> ?_,⟨e7.os,e7.tape,e7.output,e7.size,fun b hb hn=>e7.old b hb fun h=>hn (hsub2.mem h),fun j b off n hj hn=> ?_⟩⟩
  ·obtain⟨a1,a2⟩:=e4 b hb
   exact⟨a1.imp (fun h=>hsub.mem h) id,a2⟩
  ·obtain⟨cur,E0,us0,b1,b2,b3,b4⟩:=e6 j p cs L hp hc hL
   exact⟨cur,E0,us0,b1,b2,b3,All3.mono (fun a b L' _ h=>h.up fun b hb=>⟨up b hb.1,hb.2⟩) b4⟩
  ·exact e7.part j b off n hj (by rw[hlen];exact hn)
open Go.RowKit
def leafO:Leaf->PV
 | .sc v=> .v v
 | .nest k l=>match flat k with
  | true=> .row true k l
  | false=> .drow k l
def leafX:Leaf->PV
 | .sc v=> .v v
 | .nest _ _=> .dead
def fid (id:Nat):Nat:=1000000000000000+10000000000*id
def focusE {α:Type} (id i:Nat) (next:List PV->Eff α):Eff α:= .rd id fun e=>match e with
 | ⟨ver,some (.rowd k l)⟩=> .opt l[i]? fun x=> .wr id ⟨ver,some (.rowx k l i ((leaves x).map leafX))⟩ ((openL (fid id) ((leaves x).map leafO)).bind fun qs=> .wr id ⟨ver,some (.rowx k l i qs)⟩ (next qs))
 | _=> .fail
section
variable {P:Program} {PC:Con} {X:Ctx} {nt:Nat} {Q:Exit->Act->World->Prop} {Z:Env} {a:Act} {w:World} {o:Oper} {v:PV} {t:Nat->PV} {s s':Sto} {r wr:List Nat}
theorem DLeaf.one {lf:Leaf} (h:DLeaf w lf u L):u.oneCell'=true:=by
 cases lf with
 | sc q=>
  obtain⟨⟨rfl,hw⟩,_⟩:=h
  exact oneCell_of (p:= .v u) (S:=fun _=>True) (w:=w) (J:=fun _=>none) (σ:=fun _=>⟨0,none⟩) rfl ⟨rfl,hw⟩
 | nest k l=>
  rcases DOwn_iff.1 h with⟨rfl,_,_⟩ |⟨g,cap,cur,L',rfl,_,_⟩ <;>rfl
theorem All3.nilL {as:List Leaf}:∀{us:List Value} {L:List Nat},(∀lf∈as,∃q,lf= .sc q)->All3 (DLeaf w) as us L->L=[]:=by
 induction as with
 | nil=>intro us L _ h;cases us with
  | nil=>exact h
  | cons=>exact h.elim
 | cons a as ih=>
  intro us L ha h
  cases us with
  | nil=>exact h.elim
  | cons u us=>
   obtain⟨L1,L2,e,h1,h2⟩:=h
   obtain⟨q,rfl⟩:=ha a (List.mem_cons_self ..)
   obtain rfl:=ih (fun lf hm=>ha lf (List.mem_cons_of_mem _ hm)) h2
   rw[e,h1.2];rfl
theorem DOwn.flat {S:Nat->Prop} {k:K} (hk:Go.Px.flat k=true) {u:Value} {l:List (ty k)} {L:List Nat} (h:DOwn w k u l L):Own S w k u l L:=by
 rcases DOwn_iff.1 h with⟨h1,h2,h3⟩ |⟨g,cap,cur,L',h1,h2,h3⟩
 ·exact .inl ⟨h1,h2,h3⟩
 ·have e:L'=[]:=All3.nilL (fun lf hm=>by
   obtain⟨x,_,hx⟩:=List.mem_flatMap.1 hm
   exact flat_sc hk x lf hx) h3.2.2.2.2.2
  subst e
  exact .inr ⟨g,cap,cur,h1,h2,h3.cont fun b hb=>by cases hb⟩
theorem DLeaf.own {lf:Leaf} (h:DLeaf w lf u L):OwnS S w J σ (leafO lf) u L:=by
 cases lf with
 | sc q=>exact⟨h.2,h.1⟩
 | nest k l=>
  show OwnS S w J σ (match flat k with|true=> .row true k l|false=> .drow k l) u L
  cases hk:flat k with
  | true=>exact DOwn.flat hk h
  | false=>exact h
theorem All3.map {α α' J:Type} {R:α->J->List Nat->Prop} {R':α'->J->List Nat->Prop} {f:α->α'} (h:∀a b L,R a b L->R' (f a) b L):∀{as:List α} {bs:List J} {L:List Nat},All3 R as bs L->All3 R' (as.map f) bs L
 | [],[],_,h=>h
 | _::_,_::_,_,⟨L1,L2,e,h1,h2⟩=>⟨L1,L2,e,h _ _ _ h1,All3.map h h2⟩
 | [],_::_,_,h=>h.elim
 | _::_,[],_,h=>h.elim
theorem All3.get {α J:Type} {R:α->J->List Nat->Prop}:∀{as:List α} {bs:List J} {L:List Nat},All3 R as bs L->∀(i:Nat) a,as[i]?=some a->∃b L',bs[i]?=some b/\(∀x∈L',x∈L)/\R a b L'
 | a::as,b::bs,L,⟨L1,L2,e,h1,h2⟩,0,x,hx=>by simp at hx;subst hx;exact⟨b,L1,rfl,fun x hx=>by rw[e];simp[hx],h1⟩
 | a::as,b::bs,L,⟨L1,L2,e,h1,h2⟩,i+1,x,hx=>by
  obtain⟨b',L',q1,q2,q3⟩:=All3.get h2 i x (by simpa using hx)
  exact⟨b',L',by simpa using q1,fun x hx=>by rw[e];simp[q2 x hx],q3⟩
 | [],[],_,_,i,x,hx=>by simp at hx
 | [],_::_,_,h,_,_,_=>h.elim
 | _::_,[],_,h,_,_,_=>h.elim
theorem DAt.cut {b:Nat} {k:K} {l:List (ty k)} {cap:Nat} {cur:Array Value} {L:List Nat} (h:DAt w b l cap cur L) {i:Nat} {x:ty k} (hx:l[i]?=some x) :
  ∃L1 Lx L2,L=L1++(Lx++L2)/\All3 (DLeaf w) ((l.take i).flatMap leaves) (cur.toList.take (i*size k)) L1/\All3 (DLeaf w) (leaves x) ((cur.toList.drop (i*size k)).take (size k)) Lx/\
   All3 (DLeaf w) ((l.drop (i+1)).flatMap leaves) ((cur.toList.take (l.length*size k)).drop ((i+1)*size k)) L2:=by
 obtain⟨h1,h2,h3,h4,h5,h6⟩:=h
 have hi:=(qS1.1 hx).1
 have el:l=l.take i++x::l.drop (i+1):=by
  obtain⟨_,e⟩:=qS1.1 hx
  rw[<-e,List.getElem_cons_drop,List.take_append_drop]
 have hle:l.length*size k<=cur.size:=by rw[h5];exact Nat.mul_le_mul_right _ h3
 have hmul:i*size k+size k<=l.length*size k:=by
  have:(i+1)*size k<=l.length*size k:=Nat.mul_le_mul_right _ (by omega)
  rw[Nat.add_mul]at this;omega
 have ef:l.flatMap leaves=(l.take i).flatMap leaves++(leaves x++(l.drop (i+1)).flatMap leaves):=by
  conv=>lhs;rw[el]
  rw[List.flatMap_append,List.flatMap_cons]
 rw[ef]at h6
 obtain⟨b1,b2,L1,L2,e1,e2,k1,k2⟩:=All3.cut h6
 obtain⟨b3,b4,L3,L4,e3,e4,k3,k4⟩:=All3.cut k2
 subst e3 e4
 have l1:b1.length=i*size k:=by rw[<-k1.len,flat_len,List.length_take];rw[Nat.min_eq_left (by omega)]
 have l3:b3.length=size k:=by rw[<-k3.len,leaves_len]
 have c1:b1=cur.toList.take (i*size k):=by
  have:=congrArg (List.take (i*size k)) e1
  rw[List.take_take,Nat.min_eq_left (by omega),<-l1,List.take_left]at this
  rw[<-this,l1]
 have c2:b3++b4=(cur.toList.take (l.length*size k)).drop (i*size k):=by
  have:=congrArg (List.drop (i*size k)) e1
  rw[<-l1,List.drop_left]at this
  rw[<-this,l1]
 have c3:b3=(cur.toList.drop (i*size k)).take (size k):=by
  have:=congrArg (List.take (size k)) c2
  rw[<-l3,List.take_left]at this
  rw[this,l3,List.drop_take,List.take_take,Nat.min_eq_left (by omega)]
 have c4:b4=(cur.toList.take (l.length*size k)).drop ((i+1)*size k):=by
  have:=congrArg (List.drop (size k)) c2
  rw[<-l3,List.drop_left,List.drop_drop]at this
  rw[this,l3,Nat.add_mul,Nat.one_mul]
 exact⟨L1,L3,L4,e2,c1▸k1,c3▸k3,c4▸k4⟩
end
open Go.RowKit
section
variable {P:Program} {PC:Con} {X:Ctx} {nt:Nat} {Q:Exit->Act->World->Prop} {Z:Env} {a:Act} {w:World} {o:Oper} {v:PV} {t:Nat->PV} {s s':Sto} {r wr:List Nat}
variable {J:Nat->Option (Nat×Nat)} {N:Nat->List Nat} {tm:Array Value} {S:Nat->Prop}
theorem StS.form (h:StS X S Z w tm J N) {id:Nat} {blk blk':Blk} {l l':List (ty k)} (hid:Z.s id=⟨ver,some blk⟩) (hr:IsRow blk k l) (hr':IsRow blk' k l') (hl:l'.length=l.length) (hL:∀x∈L,x∈N id) (hnd:L.Nodup)
  (hptr:∀i j u b off,J id=some (b,off)->PtrC J Z.s id ver i j u->PtrC J (upd Z.s id ⟨ver,some blk'⟩) id ver i j u)
  (hblk:Tr S S w w J J Z.s (upd Z.s id ⟨ver,some blk'⟩)->BlkC S w J (upd Z.s id ⟨ver,some blk'⟩) L id blk') :
  Tr S S w w J J Z.s (upd Z.s id ⟨ver,some blk'⟩)/\StS X S ⟨Z.t,upd Z.s id ⟨ver,some blk'⟩⟩ w tm J (upd N id L):=by
 have hb0:(Z.s id).blk=some blk:=by rw[hid]
 refine StS.step h (upd Z.s id ⟨ver,some blk'⟩) (· = id) (fun _ h=>h) (fun _ _=>rfl) (fun b hb=> ?_) (Nat.le_refl _) (fun _ _ _=>rfl) (fun i hi=>⟨upd_ne _ _ hi,rfl,upd_ne _ _ hi⟩) ?_ ?_ ?_ ?_ ?_ ?_ ?_ (fun q u n hq e=>h.rx_same hid hr hr' hl q u n hq e) h.frm h.env
 ·obtain⟨h1,h2,h3⟩:=h.fz b hb
  refine⟨h1,?_,h3⟩
  rintro⟨i,bk,q1,q2⟩
  by_cases hi:i=id
  ·subst hi;rw[upd_same]at q2;exact h2 ⟨i,_,hb0,hL _ q2⟩
  ·rw[upd_ne _ _ hi]at q1 q2;exact h2 ⟨i,bk,q1,q2⟩
 ·rintro i rfl v o n f u ⟨k1,k2,k3⟩
  refine⟨by rw[upd_same];rw[hid]at k1;exact k1,k2,fun b2 k2' l2 e hr2=> ?_⟩
  rw[upd_same]at e
  cases e
  cases hr'.same hr2
  have:=k3 _ _ _ hid hr
  rw[hl]
  exact this
 ·rintro i rfl v i' j' u hp
  have k1:=hp.1
  rw[hid]at k1
  by_cases hv:v=ver
  ·subst hv
   obtain⟨b,off,hβ,_⟩:=hp.2.2 blk hid
   exact hptr i' j' u b off hβ hp
  ·refine⟨by rw[upd_same];exact k1,hp.2.1,fun b2 e=> ?_⟩
   rw[upd_same]at e
   cases e
   exact absurd rfl hv
 ·rintro i b rfl hb T
  rw[upd_same]at hb
  cases hb
  rw[upd_same]
  exact hblk T
 ·rintro i b rfl hb x hx
  rw[upd_same]at hx
  exact .inl ⟨i,_,rfl,hb0,hL x hx⟩
 ·rintro i b rfl hb
  rw[upd_same]
  exact hnd
 ·rintro i i' b b' rfl rfl _ _ hne
  exact absurd rfl hne
 ·rintro j p hj rfl
  obtain⟨_,cs,e,_⟩:=h.ext j p hj
  rw[hb0]at e;cases e;cases hr
theorem openS_keep {id:Nat} (hr:(openS id p).Run PC s q s' r wr):∀i,i<id->s' i=s i:=fun i hi=>by
 unfold openS at hr
 split at hr
 ·obtain⟨r',wr',hr⟩:=newBlk_run hr
  obtain⟨-,rfl,-,-⟩:=hr
  exact upd_ne _ _ (by omega)
 ·obtain⟨r',wr',hr⟩:=newBlk_run hr
  obtain⟨-,rfl,-,-⟩:=hr
  exact upd_ne _ _ (by omega)
 ·obtain⟨r',wr',hr⟩:=newBlk_run hr
  obtain⟨-,rfl,-,-⟩:=hr
  exact upd_ne _ _ (by omega)
 all_goals first|exact hr.elim|(obtain⟨-,rfl,-,-⟩:=hr;rfl)
theorem openL_keep:∀{ps qs:List PV} {id:Nat} {s s':Sto} {r wr:List Nat},(openL id ps).Run PC s qs s' r wr->∀i,i<id->s' i=s i
 | [],qs,id,s,s',r,wr,hr,i,hi=>by obtain⟨-,rfl,-,-⟩:=hr;rfl
 | p::ps,qs,id,s,s',r,wr,hr,i,hi=>by
  obtain⟨a1,s1,r1,w1,r2,w2,k1,k2⟩:=bind_run hr
  obtain⟨a2,s2,r3,w3,r4,w4,k3,k4⟩:=bind_run k2
  obtain⟨-,e2,-,-⟩:=k4
  subst e2
  rw[openL_keep k3 i (by omega),openS_keep k1 i hi]
theorem fid_gt (id:Nat):id<fid id:=by unfold fid;omega
theorem focus_spec (h:St X ⟨t,s⟩ w tm J N) {id:Nat} {l:List (ty k)} {x:ty k} (hid:s id=⟨ver,some (.rowd k l)⟩) (hx:l[i]?=some x) {qs:List PV}
  (hr:(openL (fid id) ((leaves x).map leafO)).Run PC (upd s id ⟨ver,some (.rowx k l i ((leaves x).map leafX))⟩) qs s2 r wr) :
  ∃J' N',St X ⟨t,upd s2 id ⟨ver,some (.rowx k l i qs)⟩⟩ w tm J' N'/\Tr (Fz X w N s) (Fz X w N' (upd s2 id ⟨ver,some (.rowx k l i qs)⟩)) w w J J' s (upd s2 id ⟨ver,some (.rowx k l i qs)⟩):=by
 have hbk:=h.blk id _ (by show(s id).blk=_;rw[hid])
 have hi:=(qS1.1 hx).1
 rcases hbk with⟨_,e,_⟩ |⟨b,cap,cur,L,hβ,hN,hAt⟩
 ·subst e;simp at hi
 obtain⟨L1,Lx,L2,rfl,d1,dx,d2⟩:=hAt.cut hx
 obtain⟨a1,a2,a3,a4,a5,a6⟩:=hAt
 have hnd:(b::(L1++(Lx++L2))).Nodup:=by rw[<-hN];exact h.nodup id _ (by show(s id).blk=_;rw[hid])
 have hmul:i*size k+size k<=cur.size:=by
  have:(i+1)*size k<=cap*size k:=Nat.mul_le_mul_right _ (by omega)
  rw[Nat.add_mul]at this;omega
 have hcell:∀j u,((cur.toList.drop (i*size k)).take (size k))[j]?=some u->cur[i*size k+j]?=some u:=fun j u hu=>by
  rw[List.getElem?_take]at hu
  split at hu
  ·rw[List.getElem?_drop]at hu;simpa using hu
  ·cases hu
 have hsub:(b::(L1++L2)).Sublist (b::(L1++(Lx++L2))):=(List.sublist_append_right Lx L2).append_left L1 |>.cons_cons b
 obtain⟨T1,st1⟩:=StS.form (Z:=⟨t,s⟩) h (id:=id) (blk':= .rowx k l i ((leaves x).map leafX)) hid .d .x rfl (L:=b::(L1++L2)) (fun y hy=>by rw[hN];exact hsub.mem hy) (hsub.nodup hnd)
  (fun i' j' u b' off hb' hp=>⟨by rw[upd_same];exact Nat.le_refl _,hp.2.1,fun b2 e=>by
   rw[upd_same]at e
   cases e
   exact hp.2.2 _ hid⟩)
  (fun T=>⟨b,cap,cur,L1,L2,hβ,rfl,a1,a2,a3,a4,a5,hi,by simp[leaves_len],fun j p hp=>by
   rw[List.getElem?_map]at hp
   cases hlf:(leaves x)[j]? with
   | none=>simp[hlf]at hp
   | some lf=>
    simp only[hlf,Option.map_some,Option.some.injEq]at hp
    subst hp
    obtain⟨u,M,hu,_,hd⟩:=dx.get j lf hlf
    refine⟨u,hcell j u hu,hd.one,?_⟩
    cases lf with
    | sc q=>exact hd.1
    | nest=>trivial,d1,d2⟩)
 have hP:Pend X (Fz X w N s) (upd s id ⟨ver,some (.rowx k l i ((leaves x).map leafX))⟩) (upd N id (b::(L1++L2))) Lx:=by
  have hm:∀y∈Lx,y∈N id:=fun y hy=>by rw[hN];simp[hy]
  have hidb:(s id).blk=some (.rowd k l):=by rw[hid]
  refine⟨?_,fun y hy hf=>hf.2.1 ⟨id,_,hidb,hm y hy⟩,fun y hy=>h.new id _ hidb y (hm y hy),fun j bk hj y hy hyn=> ?_⟩
  ·have:=(List.nodup_cons.1 hnd).2
   exact(List.nodup_append.1 (List.nodup_append.1 this).2.1).1
  ·by_cases hji:j=id
   ·subst hji
    rw[upd_same]at hyn
    rw[List.nodup_cons]at hnd
    rcases List.mem_cons.1 hyn with rfl|hyn
    ·exact hnd.1 (by simp[hy])
    ·rcases List.mem_append.1 hyn with hyn|hyn
     ·exact(List.nodup_append.1 hnd.2).2.2 y hyn y (by simp[hy]) rfl
     ·exact(List.nodup_append.1 (List.nodup_append.1 hnd.2).2.1).2.2 y hy y hyn rfl
   ·rw[upd_ne _ _ hji]at hj hyn
    exact h.disj j id _ _ hj hidb hji y hyn (hm y hy)
 obtain⟨J2,N2,st2,T2,hall,hheld⟩:=openL_spec st1 (by have:=fid_gt id;unfold fid;omega) (All3.map (fun lf u L h=>DLeaf.own (S:=Fz X w N s) (J:=J) (σ:=s) h) dx) hP hr
 have hs2:s2 id=⟨ver,some (.rowx k l i ((leaves x).map leafX))⟩:=by rw[openL_keep hr id (fid_gt id),upd_same]
 have hp0:PtrC J2 s2 id ver i 0 (.pointer (some ⟨b,i*size k+0,none⟩)):=T2.ptr ⟨by rw[upd_same];exact Nat.le_refl _,.inl ⟨_,rfl⟩,fun b2 e=>by
  rw[upd_same]at e;cases e;exact⟨b,0,hβ,rfl,hi,rfl⟩⟩
 obtain⟨b',off',hβ2,e1,_,e2⟩:=hp0.2.2 _ hs2
 cases e1
 cases e2
 obtain⟨b',cap',cur',M1,M2,g1,g2,g3,g4,g5,g6,g7,g8,g9,g10,g11,g12⟩:=st2.blk id _ (by show(s2 id).blk=_;rw[hs2])
 rw[hβ2]at g1;cases g1
 have ec:cur'=cur:=by
  obtain⟨_,p1,_⟩:=g4
  obtain⟨_,p2,_⟩:=a2
  rw[p1]at p2;cases p2;rfl
 subst ec
 have hqs:qs.length=size k:=by rw[hall.len,<-dx.len,leaves_len]
 obtain⟨T3,st3⟩:=StS.form (Z:=⟨t,s2⟩) st2 (id:=id) (blk':= .rowx k l i qs) hs2 .x .x rfl (L:=N2 id) (fun y hy=>hy) (st2.nodup id _ (by show(s2 id).blk=_;rw[hs2]))
  (fun i' j' u b' off hb' hp=>⟨by rw[upd_same];exact Nat.le_refl _,hp.2.1,fun b2 e=>by
   rw[upd_same]at e
   cases e
   exact hp.2.2 _ hs2⟩)
  (fun T=>⟨b,cap',cur',M1,M2,hβ2,g2,g3,g4,g5,g6,g7,g8,hqs,fun j p hp=>by
   obtain⟨u,hu,hv⟩:=hall.get j p hp
   obtain⟨lf,hlf⟩:∃lf,(leaves x)[j]?=some lf:=by
    have:j<(leaves x).length:=by rw[leaves_len,<-hqs];exact(qS1.1 hp).1
    exact⟨_,qE1 this⟩
   obtain⟨u',M,hu',_,hd⟩:=dx.get j lf hlf
   rw[hu]at hu';cases hu'
   exact⟨u,hcell j u hu,hd.one,T.vs hv⟩,g11,g12⟩)
 obtain⟨st4,T4⟩:=st3.close
 exact⟨_,_,st4,(T1.trans T2).trans (T3.trans T4)⟩
end
open Go.RowKit
def dLeaf:PV->Option LeafI
 | .v x=>some (.sc x)
 | .nil=>some .nl
 | .row true k l=>(match flat k with
  | true=>some (.nest k l)
  | false=>none)
 | .drow k l=>some (.nest k l)
 | _=>none
def dLeaves:List PV->Option (List LeafI)
 | []=>some []
 | p::ps=>match dLeaf p,dLeaves ps with
  | some x,some l=>some (x::l)
  | _,_=>none
def closeX (s:Sto) (k:K) (cs:List PV):Option (ty k×List Nat):=match closeL s cs with
 | some (qs,A,[])=>(match nodupB A&&A.all (Nat.ble 99),dLeaves qs with
  | true,some ls=>(match ofLeaves k ls with
   | some y=>some (y,A)
   | none=>none)
  | _,_=>none)
 | _=>none
section
variable {P:Program} {PC:Con} {X:Ctx} {nt:Nat} {Q:Exit->Act->World->Prop} {Z:Env} {a:Act} {w:World} {o:Oper} {v:PV} {t:Nat->PV} {s s':Sto} {r wr:List Nat}
variable {J:Nat->Option (Nat×Nat)} {N:Nat->List Nat} {tm:Array Value} {S:Nat->Prop} {σ:Sto}
theorem dLeaf_own {x:LeafI} {lf:Leaf} (h:dLeaf p=some x) (hi:InL x lf) (ho:OwnS S w J σ p u L):DLeaf w lf u L:=by
 unfold dLeaf at h
 split at h
 ·cases h
  obtain⟨rfl,e,hw⟩:=ho
  have e2:lf= .sc _:=hi hw
  subst e2
  exact⟨⟨e,hw⟩,rfl⟩
 ·cases h
  obtain⟨k,rfl⟩:=hi
  obtain⟨rfl,e⟩:=ho
  exact DOwn_iff.2 (.inl ⟨e,rfl,rfl⟩)
 ·split at h
  ·rename_i hk
   cases h
   have e2:lf= .nest _ _:=hi
   subst e2
   exact Own.deep hk ho
  ·cases h
 ·cases h
  have e2:lf= .nest _ _:=hi
  subst e2
  exact ho
 ·cases h
theorem dLeaves_own:∀{ps:List PV} {xs:List LeafI} {lfs:List Leaf} {us:List Value} {L:List Nat},dLeaves ps=some xs->All2 InL xs lfs->All3 (OwnS S w J σ) ps us L->All3 (DLeaf w) lfs us L
 | [],xs,lfs,us,L,h,hi,ho=>by
  cases h
  cases lfs with
  | nil=>cases us with
   | nil=>exact ho
   | cons=>exact ho.elim
  | cons=>exact hi.elim
 | p::ps,xs,lfs,us,L,h,hi,ho=>by
  unfold dLeaves at h
  split at h
  ·rename_i x l h1 h2
   cases h
   cases lfs with
   | nil=>exact hi.elim
   | cons lf lfs=>
    cases us with
    | nil=>exact ho.elim
    | cons u us=>
     obtain⟨L1,L2,e,o1,o2⟩:=ho
     exact⟨L1,L2,e,dLeaf_own h1 hi.1 o1,dLeaves_own h2 hi.2 o2⟩
  ·cases h
theorem dropS_at:∀{A:List Nat} {s:Sto} {i:Nat},dropS A s i=(if i∈A then⟨(s i).ver,none⟩else s i)
 | [],s,i=>by simp[dropS]
 | a::A,s,i=>by
  unfold dropS
  rw[dropS_at]
  by_cases hi:i=a
  ·subst hi
   rw[upd_same]
   simp
  ·rw[upd_ne _ _ hi]
   simp[hi]
theorem unfocus_spec (h:St X ⟨t,s⟩ w tm J N) {id:Nat} {l:List (ty k)} {cs:List PV} (hid:s id=⟨ver,some (.rowx k l i cs)⟩) {y:ty k} (hc:closeX s k cs=some (y,A)) :
  ∃N',St X ⟨t,upd (dropS A s) id ⟨ver,some (.rowd k (l.set i y))⟩⟩ w tm J N'/\Tr (Fz X w N s) (Fz X w N' (upd (dropS A s) id ⟨ver,some (.rowd k (l.set i y))⟩)) w w J J s (upd (dropS A s) id ⟨ver,some (.rowd k (l.set i y))⟩):=by
 have hidb:(s id).blk=some (.rowx k l i cs):=by rw[hid]
 unfold closeX at hc
 split at hc
 case h_2=>cases hc
 rename_i qs A' hcl
 split at hc
 case h_2=>cases hc
 rename_i ls hnn hls
 split at hc
 case h_2=>cases hc
 rename_i y' hy
 cases hc
 rw[Bool.and_eq_true]at hnn
 have hA:=nodupB_spec hnn.1
 have h99:∀a∈A,99<=a:=fun a ha=>Nat.le_of_ble_eq_true (List.all_eq_true.1 hnn.2 a ha)
 obtain⟨b,cap,cur,L1,L2,hβ,hN,a1,a2,a3,a4,a5,hi,hcs,hcells,d1,d2⟩:=h.blk id _ hidb
 have hmul:i*size k+size k<=l.length*size k:=by
  have:(i+1)*size k<=l.length*size k:=Nat.mul_le_mul_right _ (by omega)
  rw[Nat.add_mul]at this;omega
 have hle:l.length*size k<=cur.size:=by rw[a5];exact Nat.mul_le_mul_right _ a3
 let us:=(cur.toList.drop (i*size k)).take (size k)
 have husl:us.length=size k:=by show(List.take _ (List.drop _ _)).length=_;rw[List.length_take,List.length_drop,Array.length_toList];omega
 have hus:All2 (ValS (Fz X w N s) w J s) cs us:=by
  have key:∀(ps:List PV) (vs:List Value),ps.length=vs.length->(∀(j:Nat) p u,ps[j]?=some p->vs[j]?=some u->ValS (Fz X w N s) w J s p u)->All2 (ValS (Fz X w N s) w J s) ps vs:=by
   intro ps
   induction ps with
   | nil=>intro vs hl _;cases vs with
    | nil=>trivial
    | cons=>simp at hl
   | cons p ps ih=>intro vs hl hv;cases vs with
    | nil=>simp at hl
    | cons u vs=>exact⟨hv 0 p u rfl rfl,ih vs (by simpa using hl) fun j p u hp hu=>hv (j+1) p u (by simpa using hp) (by simpa using hu)⟩
  refine key cs us (by omega) fun j p u hp hu=> ?_
  obtain⟨u',hu',_,hv⟩:=hcells j p hp
  have:cur[i*size k+j]?=some u:=by
   have hu:((cur.toList.drop (i*size k)).take (size k))[j]?=some u:=hu
   rw[List.getElem?_take]at hu
   split at hu
   ·rw[List.getElem?_drop]at hu;simpa using hu
   ·cases hu
  rw[hu']at this;cases this
  exact hv
 obtain⟨hlive,hown⟩:=closeL_spec (S':=Fz X w N s) (J':=J) (σ':=s) h (fun _ h=>h) hus hcl (fun id hid=>by cases hid)
 have hdl:=dLeaves_own hls (ofLeaves_spec hy) hown
 have hidA:id∉A:=fun hm=>by
  have key:∀{ps qs:List PV} {A B:List Nat},closeL s ps=some (qs,A,B)->∀a∈A,∀k l i cs,(s a).blk≠some (.rowx k l i cs):=by
   intro ps
   induction ps with
   | nil=>intro qs A B hc a ha;cases hc;cases ha
   | cons p ps ih=>
    intro qs A B hc a ha k l i cs e
    unfold closeL at hc
    split at hc
    ·rename_i q A1 B1 qs' A2 B2 e1 e2
     cases hc
     rcases List.mem_append.1 ha with ha|ha
     ·unfold closeS at e1
      repeat' split at e1
      all_goals first
       | (cases e1;done)
       | (cases e1;cases ha;done)
       | (rename_i hs _;cases e1;rw[List.mem_singleton.1 ha]at e;simp_all;done)
       | (cases e1;rw[List.mem_singleton.1 ha]at e;simp_all;done)
     ·exact ih e2 a ha k l i cs e
    ·cases hc
  exact key hcl id hm k l i cs hidb
 let σ':Sto:=upd (dropS A s) id ⟨ver,some (.rowd k (l.set i y))⟩
 let N':Nat->List Nat:=upd N id (b::(L1++((A.map N).flatten++L2)))
 have hσid:σ' id=⟨ver,some (.rowd k (l.set i y))⟩:=upd_same _ _ _
 have hσA:∀a∈A,σ' a=⟨(s a).ver,none⟩:=fun a ha=>by
  show upd _ _ _ a=_
  rw[upd_ne _ _ (fun e=>by subst e;exact hidA ha),dropS_at,if_pos ha]
 have hσo:∀j,j≠id->j∉A->σ' j=s j:=fun j h1 h2=>by
  show upd _ _ _ j=_
  rw[upd_ne _ _ h1,dropS_at,if_neg h2]
 have hAN:∀z∈(A.map N).flatten,∃a∈A,z∈N a:=fun z hz=>by
  obtain⟨q,hq,hz⟩:=List.mem_flatten.1 hz
  obtain⟨a,ha,rfl⟩:=List.mem_map.1 hq
  exact⟨a,ha,hz⟩
 have hndid:(b::(L1++L2)).Nodup:=by rw[<-hN];exact h.nodup id _ hidb
 have hndA:=h.nodups hA hlive
 have hAid:∀z∈(A.map N).flatten,z∉N id:=fun z hz hzi=>by
  obtain⟨a,ha,hza⟩:=hAN z hz
  obtain⟨bk,hbk⟩:=hlive a ha
  exact h.disj a id _ _ hbk hidb (fun e=>by subst e;exact hidA ha) z hza hzi
 obtain⟨T,st⟩:=St.step (Z:=⟨t,s⟩) h σ' (N':=N') (J':=J) (fun j=>j=id∨j∈A) (Nat.le_refl _) (fun _ _ _=>rfl) (fun j hj=>⟨hσo j (fun e=>hj (.inl e)) (fun e=>hj (.inr e)),rfl,upd_ne _ _ (fun e=>hj (.inl e))⟩)
  (by
   rintro j (rfl|hj) v o n f u ⟨k1,k2,k3⟩
   ·refine⟨by rw[hσid];show v<=ver;have k1:v<=(s j).ver:=k1;rw[hid]at k1;exact k1,k2,fun b2 k2' l2 e hr2=> ?_⟩
    rw[hσid]at e
    cases e
    cases hr2
    have:=k3 _ _ _ hid .x
    simpa using this
   ·refine⟨by rw[hσA j hj];exact k1,k2,fun b2 k2' l2 e hr2=> ?_⟩
    rw[hσA j hj]at e
    cases e)
  (by
   rintro j (rfl|hj) v i' j' u ⟨k1,k2,k3⟩
   ·refine⟨by rw[hσid];show v<=ver;have k1:v<=(s j).ver:=k1;rw[hid]at k1;exact k1,k2,fun b2 e=> ?_⟩
    rw[hσid]at e
    cases e
    have:=k3 _ hid
    simpa using this
   ·refine⟨by rw[hσA j hj];exact k1,k2,fun b2 e=> ?_⟩
    rw[hσA j hj]at e
    cases e)
  (by
   rintro j bk (rfl|hj) hb T
   ·rw[hσid]at hb
    cases hb
    show BlkC _ _ _ _ (upd N j _ j) _ _
    rw[upd_same]
    refine .inr ⟨b,cap,cur,_,hβ,rfl,by simpa using a1,a2,by simpa using a3,a4,a5,?_⟩
    have ef:(l.set i y).flatMap leaves=(l.take i).flatMap leaves++(leaves y++(l.drop (i+1)).flatMap leaves):=by
     rw[List.set_eq_take_append_cons_drop,if_pos hi,List.flatMap_append,List.flatMap_cons]
    have ec:cur.toList.take ((l.set i y).length*size k)=cur.toList.take (i*size k)++(us++(cur.toList.take (l.length*size k)).drop ((i+1)*size k)):=by
     rw[List.length_set]
     conv=>lhs;rw[<-List.take_append_drop (i*size k) (cur.toList.take (l.length*size k))]
     rw[List.take_take,Nat.min_eq_left (by omega)]
     congr 1
     conv=>lhs;rw[<-List.take_append_drop (size k) ((cur.toList.take (l.length*size k)).drop (i*size k))]
     congr 1
     ·show _=List.take _ _
      rw[List.drop_take,List.take_take,Nat.min_eq_left (by omega)]
     ·rw[List.drop_drop,Nat.add_mul,Nat.one_mul]
    rw[ef,ec]
    exact d1.app (hdl.app d2)
   ·rw[hσA j hj]at hb;cases hb)
  (by
   rintro j bk (rfl|hj) hb z hz
   ·have hz:z∈upd N j (b::(L1++((A.map N).flatten++L2))) j:=hz
    rw[upd_same]at hz
    by_cases hzA:z∈(A.map N).flatten
    ·obtain⟨a,ha,hza⟩:=hAN z hzA
     obtain⟨bk',hbk'⟩:=hlive a ha
     exact .inl ⟨a,bk',.inr ha,hbk',hza⟩
    ·refine .inl ⟨j,_,.inl rfl,hidb,?_⟩
     rw[hN]
     simp only[List.mem_cons,List.mem_append]at hz⊢
     rcases hz with hz|hz|hz|hz
     ·exact .inl hz
     ·exact .inr (.inl hz)
     ·exact absurd hz hzA
     ·exact .inr (.inr hz)
   ·rw[hσA j hj]at hb;cases hb)
  (by
   rintro j bk (rfl|hj) hb
   ·show(upd N j _ j).Nodup
    rw[upd_same]
    rw[List.nodup_cons]at hndid⊢
    obtain⟨n1,n2,n3⟩:=List.nodup_append.1 hndid.2
    have hAL:∀z∈(A.map N).flatten,z≠b/\z∉L1/\z∉L2:=fun z hz=>by
     have:=hAid z hz
     rw[hN]at this
     simp only[List.mem_cons,List.mem_append,not_or]at this
     exact⟨this.1,this.2.1,this.2.2⟩
    refine⟨?_,List.nodup_append.2 ⟨n1,List.nodup_append.2 ⟨hndA,n2,fun z hz z' hz' e=>(hAL z hz).2.2 (e▸hz')⟩,fun z hz z' hz' e=> ?_⟩⟩
    ·simp only[List.mem_append,not_or]
     refine⟨fun hm=>hndid.1 (by simp[hm]),fun hm=>(hAL b hm).1 rfl,fun hm=>hndid.1 (by simp[hm])⟩
    ·subst e
     rcases List.mem_append.1 hz' with hz'|hz'
     ·exact(hAL z hz').2.1 hz
     ·exact n3 z hz z hz' rfl
   ·rw[hσA j hj]at hb;cases hb)
  (by
   rintro j j' bk bk' (rfl|hj) (rfl|hj') hb hb' hne
   ·exact absurd rfl hne
   ·rw[hσA j' hj']at hb';cases hb'
   ·rw[hσA j hj]at hb;cases hb
   ·rw[hσA j hj]at hb;cases hb)
  (by
   rintro j p hj (rfl|hj')
   ·obtain⟨_,cs',e,_⟩:=h.ext j p hj
    have e:(s j).blk=_:=e
    rw[hidb]at e;cases e
   ·have:=(qS1.1 hj).1
    have:=X.few
    have:=h99 j hj'
    omega)
  (by
   rintro q u n hq (hC|hC)
   ·obtain⟨g1,b0,k0,l0,g2,g3,g4,g5⟩:=h.rxt q u n hq
    have g2:s (50+q)=⟨0,some b0⟩:=g2
    rw[hC,hid]at g2
    cases g2
    cases g3
    exact⟨_,k,l.set i y,by rw[hC,hσid],.d,by simpa using g4⟩
   ·obtain⟨g1,_⟩:=h.rxt q u n hq
    have:=h99 _ hC
    omega)
  h.frm h.env
 exact⟨N',st,T⟩
end
open Go.RowKit
def scs:List Leaf->Bool
 | []=>true
 | .sc _::l=>scs l
 | .nest _ _::_=>false
def eLoadX (t:TypeId) (p:PV):Eff PV:=match tyB t with
 | none=> .fail
 | some (ag,n)=>match p with
  | .ptr id ver i j=>live id ver fun
   | .rowd _ l=> .opt l[i]? fun x=>(match scs (((leaves x).drop j).take n)with
    | true=>rangeV ag ((leaves x).map leafX) j n
    | false=>focusE id i fun qs=>rangeV ag qs j n)
   | .rowx _ _ i0 cs=>gdE (i=i0) (rangeV ag cs j n)
   | .box _=>eLoad t p
   | .rowb _ _=>eLoad t p
   | .objb _=>eLoad t p
   | .iterb _ _ _ _ _=>eLoad t p
  | p=>eLoad t p
def eStoreX (t:TypeId) (p v:PV):Eff PV:=match tyB t with
 | none=> .fail
 | some (ag,n)=>match p with
  | .ptr id ver i j=>live id ver fun
   | .rowd k l=>if(cellsP v).length=n/\(cellsP v).all storable then focusE id i fun qs=>if j+n<=qs.length then .wr id ⟨ver,some (.rowx k l i (splice qs j (cellsP v)))⟩ (.ret .un)else .fail else .fail
   | .rowx k l i0 cs=>if(cellsP v).length=n/\(cellsP v).all storable then gdE (i=i0) (if j+n<=cs.length then .wr id ⟨ver,some (.rowx k l i0 (splice cs j (cellsP v)))⟩ (.ret .un)else .fail)else .fail
   | .box _=>eStore t p v
   | .rowb _ _=>eStore t p v
   | .objb _=>eStore t p v
   | .iterb _ _ _ _ _=>eStore t p v
  | p=>eStore t p v
section
variable {P:Program} {PC:Con} {X:Ctx} {nt:Nat} {Q:Exit->Act->World->Prop} {Z:Env} {a:Act} {w:World} {o:Oper} {v:PV} {t:Nat->PV} {s s':Sto} {r wr:List Nat}
variable {J:Nat->Option (Nat×Nat)} {N:Nat->List Nat} {tm:Array Value} {S:Nat->Prop} {σ:Sto}
theorem blk_cells_rowx {N:List Nat} {id:Nat} {l:List (ty k)} {cs:List PV} (h:BlkC S w J σ N id (.rowx k l i cs)) :
  ∃b,J id=some (b,0)/\∀(j:Nat) p,cs[j]?=some p->∃u,w.cell? ⟨b,i*size k+j,none⟩ = some u/\ValS S w J σ p u:=by
 obtain⟨b,cap,cur,L1,L2,h1,h2,h3,h4,h5,h6,h7,h8,h9,h10,_⟩:=h
 refine⟨b,h1,fun j p hp=> ?_⟩
 obtain⟨u,hu,_,hv⟩:=h10 j p hp
 exact⟨u,by rw[h4.cell];exact hu,hv⟩
theorem blk_cells_rowd {N:List Nat} {id:Nat} {l:List (ty k)} (h:BlkC S w J σ N id (.rowd k l)) {x:ty k} (hx:l[i]?=some x) :
  ∃b,J id=some (b,0)/\∀(j:Nat) p,((leaves x).map leafX)[j]?=some p->∃u,w.cell? ⟨b,i*size k+j,none⟩ = some u/\ValS S w J σ p u:=by
 have hi:=(qS1.1 hx).1
 rcases h with⟨_,e,_⟩ |⟨b,cap,cur,L,hβ,hN,hAt⟩
 ·subst e;simp at hi
 ·obtain⟨L1,Lx,L2,_,_,dx,_⟩:=hAt.cut hx
  refine⟨b,hβ,fun j p hp=> ?_⟩
  rw[List.getElem?_map]at hp
  cases hlf:(leaves x)[j]? with
  | none=>simp[hlf]at hp
  | some lf=>
   simp only[hlf,Option.map_some,Option.some.injEq]at hp
   subst hp
   obtain⟨u,M,hu,_,hd⟩:=dx.get j lf hlf
   rw[List.getElem?_take]at hu
   split at hu
   case isFalse=>cases hu
   rw[List.getElem?_drop]at hu
   refine⟨u,by rw[hAt.2.1.cell];simpa using hu,?_⟩
   cases lf with
   | sc q=>exact hd.1
   | nest=>trivial
theorem store_rowx (h:St X Z w tm J N) {id:Nat} {l:List (ty k)} {cs:List PV} {b:Nat} (hid:Z.s id=⟨ver,some (.rowx k l i cs)⟩) (hβ:J id=some (b,0))
  (hv:All2 (ValS (Fz X w N Z.s) w J Z.s) ps us) (h1:∀x∈us,x.oneCell'=true) (hj:j+ps.length<=cs.length) :
  ∃cur,RowAt w b cur (tid k)/\i*size k+j+us.length<=cur.size/\St X ⟨Z.t,upd Z.s id ⟨ver,some (.rowx k l i (splice cs j ps))⟩⟩ (w.setRow b (putAt cur (i*size k+j) us)) tm J N:=by
 have hblk0:(Z.s id).blk=some (.rowx k l i cs):=by rw[hid]
 obtain⟨b',cap,cur,L1,L2,q1,q2,q3,q4,q5,q6,q7,q8,q9,q10,q11,q12⟩:=h.blk id _ hblk0
 rw[hβ]at q1;cases q1
 have hul:=hv.len
 have hmul:i*size k+size k<=l.length*size k:=by
  have:(i+1)*size k<=l.length*size k:=Nat.mul_le_mul_right _ (by omega)
  rw[Nat.add_mul]at this;omega
 have hle:l.length*size k<=cur.size:=by rw[q7];exact Nat.mul_le_mul_right _ q5
 have hfit:i*size k+j+us.length<=cur.size:=by omega
 refine⟨cur,q4,hfit,?_⟩
 have hsz:=putAt_size hfit
 obtain⟨fz,hh,hice⟩:=q4
 have hnew:(w.setRow b (putAt cur (i*size k+j) us)).heap[b]?=some (.cells (putAt cur (i*size k+j) us) (tid k) fz):=setRow_heap w b cur _ _ fz hh
 have hsame:∀z,z<w.heap.size->z∉N id->(w.setRow b (putAt cur (i*size k+j) us)).heap[z]?=w.heap[z]?:=fun z _ hz=>setRow_other w b z _ (fun e=>hz (by rw[q2,e];simp))
 have hndid:(b::(L1++L2)).Nodup:=by rw[<-q2];exact h.nodup id _ hblk0
 have hkeep:∀z∈L1++L2,(w.setRow b (putAt cur (i*size k+j) us)).heap[z]?=w.heap[z]?:=fun z hz=>setRow_other w b z _ (fun e=>(List.nodup_cons.1 hndid).1 (e▸hz))
 refine(St.step (Z:=Z) h (upd Z.s id ⟨ver,some (.rowx k l i (splice cs j ps))⟩) (· = id) (by simp) (fun z hz hc=>hsame z hz (hc id _ rfl hblk0)) (fun i hi=>⟨upd_ne _ _ hi,rfl,rfl⟩) ?_ ?_ ?_ ?_ ?_ ?_ ?_ (h.rx_same hid .x .x rfl) ?_ ?_).2
 ·rintro i0 rfl v o n f u ⟨k1,k2,k3⟩
  refine⟨by rw[upd_same];rw[hid]at k1;exact k1,k2,fun blk' k' l' e hr=> ?_⟩
  rw[upd_same]at e
  cases e
  cases hr
  obtain⟨p1,p2⟩:=k3 _ k l hid .x
  refine⟨p1,?_⟩
  rcases p2 with p2|⟨b2,c,o2,p3,p4,p5,p5o,p6⟩
  ·exact .inl p2
  ·refine .inr ⟨b2,c,o2,p3,p4,p5,p5o,fun hf=> ?_⟩
   obtain⟨p7,p8,p9⟩:=p6 hf
   rw[hβ]at p3;cases p3
   refine⟨p7,p8,fun c2 E2 fz2 hc2=> ?_⟩
   rw[hnew]at hc2
   cases hc2
   rw[hsz]
   exact p9 cur _ fz hh
 ·rintro i0 rfl v i' j' u ⟨k1,k2,k3⟩
  refine⟨by rw[upd_same];rw[hid]at k1;exact k1,k2,fun blk e=> ?_⟩
  rw[upd_same]at e
  cases e
  exact k3 _ hid
 ·rintro i0 blk rfl hbk T
  rw[upd_same]at hbk
  cases hbk
  have et:∀m,m<=i*size k->(putAt cur (i*size k+j) us).toList.take m=cur.toList.take m:=fun m hm=>by
   apply List.ext_getElem?
   intro z
   rw[List.getElem?_take,List.getElem?_take]
   split
   ·have:=putAt_out hfit (i:=z) (.inl (by omega))
    simpa using this
   ·rfl
  have ed:((putAt cur (i*size k+j) us).toList.take (l.length*size k)).drop ((i+1)*size k)=(cur.toList.take (l.length*size k)).drop ((i+1)*size k):=by
   apply List.ext_getElem?
   intro z
   rw[List.getElem?_drop,List.getElem?_drop,List.getElem?_take,List.getElem?_take]
   split
   ·have:=putAt_out hfit (i:=(i+1)*size k+z) (.inr (by rw[Nat.add_mul];omega))
    simpa using this
   ·rfl
  refine⟨b,cap,_,L1,L2,hβ,q2,q3,⟨fz,hnew,by rw[hsz];exact hice⟩,q5,q6,by rw[hsz];exact q7,q8,by rw[splice_length hj];exact q9,fun m p hp=> ?_,?_,?_⟩
  ·by_cases hin:j<=m/\m<j+ps.length
   ·obtain⟨z,rfl⟩:∃z,m=j+z:=⟨m-j,by omega⟩
    rw[splice_in hj (by omega)]at hp
    obtain⟨u,hu,hvu⟩:=hv.get z p hp
    refine⟨u,?_,h1 u (qM1 hu),T.vs hvu⟩
    rw[show i*size k+(j+z)=i*size k+j+z by omega,putAt_in hfit (by omega)]
    exact hu
   ·rw[splice_out hj (by omega)]at hp
    obtain⟨u,hu,ho,hvu⟩:=q10 m p hp
    refine⟨u,?_,ho,T.vs hvu⟩
    rw[putAt_out hfit (by omega)]
    exact hu
  ·rw[et _ (Nat.le_refl _)]
   exact All3.mono (fun lf u M hM h=>DLeaf.keep h fun z hz=>hkeep z (by simp[hM z hz])) q11
  ·rw[ed]
   exact All3.mono (fun lf u M hM h=>DLeaf.keep h fun z hz=>hkeep z (by simp[hM z hz])) q12
 ·rintro i0 blk rfl hbk z hz
  exact .inl ⟨i0,_,rfl,hblk0,hz⟩
 ·rintro i0 blk rfl hbk
  exact h.nodup i0 _ hblk0
 ·rintro i0 i' b1 b2 rfl rfl _ _ hne
  exact absurd rfl hne
 ·rintro i0 p hp rfl
  obtain⟨e1,cs',e2,e3⟩:=h.ext i0 p hp
  rw[hblk0]at e2
  cases e2
 ·refine Frm.turn h id _ hblk0 rfl rfl rfl (by simp) hsame fun i2 b2 off2 n hi2 hn hm=> ?_
  exfalso
  obtain⟨e1,cs',e2,e3⟩:=h.ext i2 _ hi2
  have hne:i2≠id:=fun e=>by subst e;rw[hblk0]at e2;cases e2
  have hb2:=h.blk i2 _ e2
  obtain⟨b3,off3,_,_,p1,p2,_⟩:=hb2
  rw[e1]at p1
  cases p1
  exact h.disj i2 id _ _ e2 hblk0 hne b2 (by rw[p2];simp) hm
 ·exact St.env_turn h id _ hblk0 hsame
theorem focusE_run {id:Nat} {next:List PV->Eff α} {b:α} (h:(focusE id i next).Run PC s b s' r wr):∃ver k l x qs s2 r1 w1 r2 w2,s id=⟨ver,some (.rowd k l)⟩/\l[i]?=some x/\(openL (fid id) ((leaves x).map leafO)).Run PC (upd s id ⟨ver,some (.rowx k l i ((leaves x).map leafX))⟩) qs s2 r1 w1/\(next qs).Run PC (upd s2 id ⟨ver,some (.rowx k l i qs)⟩) b s' r2 w2:=by
 obtain⟨r',rfl,h⟩:=h
 simp only at h
 split at h
 case h_2=>exact h.elim
 rename_i ver k l he
 obtain⟨x,hx,h⟩:=h
 obtain⟨w',rfl,h⟩:=h
 obtain⟨qs,s1,r1,w1,r2,w2,h1,h2⟩:=bind_run h
 obtain⟨w3,-,h3⟩:=h2
 exact⟨ver,k,l,x,qs,s1,r1,w1,_,_,he,hx,h1,h3⟩
theorem eLoadX_sound (hF:Facts P) {t:TypeId} (ho:o.op= .load t x) (hx:opndB nt x=true) (hg:Good X nt Z a w) (h:(eLoadX t (opd Z.t x)).Run PC Z.s v s' r wr) :
  o.wp P a w (fun a' w'=>Good X nt ⟨putE o.dst v Z.t,s'⟩ a' w') Q:=by
 obtain⟨hs,hd,J,N,hst⟩:=id hg
 have hv:=hst.opd hs hx
 unfold eLoadX at h
 split at h
 case h_1=>exact h.elim
 rename_i ag n ht
 have fin:∀(b off:Nat) u J' N',a.eval x= .pointer (some ⟨b,off,none⟩)->St X ⟨Z.t,s'⟩ w a.tmps J' N'->(loadVar t ⟨b,off,none⟩).run P w= .ok u w->ValC (Fz X w N' s') w J' s' v u->o.wp P a w (fun a' w'=>Good X nt ⟨putE o.dst v Z.t,s'⟩ a' w') Q:=by
  intro b off u J' N' he hst' hrun hvv
  refine sound_st hs hd ?_ hst' hvv
  unfold execOp
  simp only[ho,he,Instr.loadAt,Instr.sureAddr,Sem.run_bind,Sem.run_pure,Result.andThen_ok,hrun]
 split at h
 case h_2=>exact eLoad_sound hF ho hx hg h
 rename_i id ver i j he
 have hvp:PtrC J Z.s id ver i j (a.eval x):=by rw[he]at hv;exact hv
 obtain⟨blk,r',hb,rfl,h⟩:=live_run h
 cases blk with
 | box cs=>exact eLoad_sound hF ho hx hg h
 | rowb k l=>exact eLoad_sound hF ho hx hg h
 | objb o=>exact eLoad_sound hF ho hx hg h
 | iterb=>exact eLoad_sound hF ho hx hg h
 | rowx k l i0 cs=>
  obtain⟨b,off,hβ,rfl,hil,he2⟩:=hvp.2.2 _ hb
  obtain⟨rfl,h⟩:=h
  obtain⟨b',hβ',hc⟩:=blk_cells_rowx (hst.blk id _ (by rw[hb]))
  rw[hβ]at hβ';cases hβ'
  obtain⟨rfl,u,hrun,hvv⟩:=rangeV_run hF ht h (b:=b) (off:=i*size k) hc
  exact fin b _ u J N he2 hst hrun hvv
 | rowd k l=>
  obtain⟨b,off,hβ,rfl,hil,he2⟩:=hvp.2.2 _ hb
  obtain⟨x0,hx0,h⟩:=h
  simp only at h
  split at h
  ·obtain⟨b',hβ',hc⟩:=blk_cells_rowd (hst.blk id _ (by rw[hb])) hx0
   rw[hβ]at hβ';cases hβ'
   obtain⟨rfl,u,hrun,hvv⟩:=rangeV_run hF ht h (b:=b) (off:=i*size k) hc
   exact fin b _ u J N he2 hst hrun hvv
  ·obtain⟨ver',k',l',x',qs,s2,r1,w1,r2,w2,e1,e2,h1,h2⟩:=focusE_run h
   rw[hb]at e1;cases e1
   obtain⟨J',N',hst',T⟩:=focus_spec (t:=Z.t) hst hb e2 h1
   have hvp':=T.ptr hvp
   obtain⟨b',off',hβ',rfl,_,he3⟩:=hvp'.2.2 _ (upd_same _ _ _)
   obtain⟨b2,hβ2,hc⟩:=blk_cells_rowx (hst'.blk id _ (by show(upd s2 id _ id).blk=_;rw[upd_same]))
   rw[hβ']at hβ2;cases hβ2
   obtain⟨rfl,u,hrun,hvv⟩:=rangeV_run hF ht h2 (b:=b') (off:=i*size k) hc
   exact fin b' _ u J' N' he3 hst' hrun hvv
theorem eStoreX_sound (hF:Facts P) {t:TypeId} {y:Operand} (ho:o.op= .store t x y) (hx:opndB nt x=true) (hy:opndB nt y=true) (hg:Good X nt Z a w)
  (h:(eStoreX t (opd Z.t x) (opd Z.t y)).Run PC Z.s v s' r wr):o.wp P a w (fun a' w'=>Good X nt ⟨putE o.dst v Z.t,s'⟩ a' w') Q:=by
 obtain⟨hs,hd,J,N,hst⟩:=id hg
 have hv:=hst.opd hs hx
 have hvy:=hst.opd hs hy
 unfold eStoreX at h
 split at h
 case h_1=>exact h.elim
 rename_i ag n ht
 split at h
 case h_2=>exact eStore_sound hF ho hx hy hg h
 rename_i id ver i j he
 have hvp:PtrC J Z.s id ver i j (a.eval x):=by rw[he]at hv;exact hv
 obtain⟨blk,r',hb,rfl,h⟩:=live_run h
 have fin:∀(us:List Value) (b off:Nat) (cur:Array Value) (E:TypeId),(a.eval y).cells=us.toArray->(∀x∈us,x.oneCell'=true)->(cellsP (opd Z.t y)).length=n->(cellsP (opd Z.t y)).length=us.length->a.eval x= .pointer (some ⟨b,off,none⟩)->RowAt w b cur E->off+us.length<=cur.size->
   (execOp a.eval o).run P w= .ok .skip (w.setRow b (putAt cur off us)):=by
  intro us b off cur E hc hone hn hul he hr hfit
  have hi:(P.info? t).map (·.size)=some us.length:=by
   rw[<-hul,hn]
   cases ag with
   | true=>exact(hF.agg t n ht).2
   | false=>obtain⟨e,_,h2⟩:=hF.one t n ht;rw[e];exact h2
  unfold execOp
  simp only[ho,he,Instr.storeAt,Instr.sureAddr,Sem.run_bind,Sem.run_pure,Result.andThen_ok,run_store_row' t b off (a.eval y) us hc cur E hr hfit hone hi]
  rfl
 cases blk with
 | box cs=>exact eStore_sound hF ho hx hy hg h
 | rowb k l=>exact eStore_sound hF ho hx hy hg h
 | objb o=>exact eStore_sound hF ho hx hy hg h
 | iterb=>exact eStore_sound hF ho hx hy hg h
 | rowx k l i0 cs=>
  simp only at h
  split at h
  case isFalse=>exact h.elim
  rename_i hcond
  obtain⟨us,hc,hall,hone⟩:=cellsP_val hvy hcond.2
  have hul:=hall.len
  obtain⟨b,off,hβ,rfl,hil,he2⟩:=hvp.2.2 _ hb
  obtain⟨rfl,h⟩:=h
  split at h
  case isFalse=>exact h.elim
  rename_i hj
  obtain⟨w3,_,rfl,rfl,-,-⟩:=h
  obtain⟨cur,q1,q2,q3⟩:=store_rowx hst hb hβ hall hone (by rw[hcond.1];exact hj)
  exact sound_skip hs hd (fin us b _ cur _ hc hone hcond.1 hul he2 q1 q2) q3
 | rowd k l=>
  simp only at h
  split at h
  case isFalse=>exact h.elim
  rename_i hcond
  obtain⟨ver',k',l',x',qs,s2,r1,w1,r2,w2,e1,e2,h1,h⟩:=focusE_run h
  rw[hb]at e1;cases e1
  obtain⟨J',N',hst',T⟩:=focus_spec (t:=Z.t) hst hb e2 h1
  have hvp':=T.ptr hvp
  obtain⟨b',off',hβ',rfl,_,he3⟩:=hvp'.2.2 _ (upd_same _ _ _)
  obtain⟨us,hc,hall,hone⟩:=cellsP_val (T.vc hvy) hcond.2
  have hul:=hall.len
  split at h
  case isFalse=>exact h.elim
  rename_i hj
  obtain⟨w3,_,rfl,rfl,-,-⟩:=h
  obtain⟨cur,q1,q2,q3⟩:=store_rowx hst' (upd_same _ _ _) hβ' hall hone (by rw[hcond.1];exact hj)
  exact sound_skip hs hd (fin us b' _ cur _ hc hone hcond.1 hul he3 q1 q2) q3
end
open Go.RowKit
def zeroPV:Leaf->PV
 | .sc v=> .v v
 | .nest _ _=> .nil
def eAlloc (o:Oper) (t:TypeId):Eff PV:=match zeroT t with
 | some zs=>newBlk (site o) (.box (zs.map zeroPV)) fun ver=> .ret (.ptr (site o) ver 0 0)
 | none=> .fail
def fillP (t:TypeId):List PV->List (Nat×PV)->Option (List PV)
 | cs,[]=>some cs
 | cs,(i,v)::rest=>match fldT t i with
  | some (off,_,m)=>if(cellsP v).length=m/\(cellsP v).all storable=true/\off+m<=cs.length then fillP t (splice cs off (cellsP v)) rest else none
  | none=>none
def eBuild (t:TypeId) (parts:List (Nat×PV)):Eff PV:=match tyB t,zeroT t with
 | some (true,_),some zs=>match fillP t (zs.map zeroPV) parts with
  | some cs=> .ret (.agg cs)
  | none=> .fail
 | _,_=> .fail
section
variable {P:Program} {PC:Con} {X:Ctx} {nt:Nat} {Q:Exit->Act->World->Prop} {Z:Env} {a:Act} {w:World} {o:Oper} {v:PV} {s':Sto} {r wr:List Nat}
theorem zero_val {zs:List Leaf} {cells:Array Value} (h:ZeroC zs cells):All2 (ValS S w J σ) (zs.map zeroPV) cells.toList/\∀u∈cells.toList,u.oneCell'=true:=by
 obtain⟨hl,hc⟩:=h
 have key:∀(lf:Leaf) (u:Value),ZeroL lf u->ValS S w J σ (zeroPV lf) u/\u.oneCell'=true:=by
  intro lf u hz
  cases lf with
  | sc q=>obtain⟨rfl,hw⟩:=hz;exact⟨⟨rfl,hw⟩,by cases u<;>simp_all[wfV,Value.oneCell']⟩
  | nest k l=>obtain⟨rfl,_⟩:=hz;exact⟨rfl,rfl⟩
 refine⟨All2.of (by simp[hl]) fun i p u hp hu=> ?_,fun u hu=> ?_⟩
 ·rw[List.getElem?_map]at hp
  cases hz:zs[i]? with
  | none=>simp[hz]at hp
  | some lf=>
   simp only[hz,Option.map_some,Option.some.injEq]at hp
   subst hp
   obtain⟨u',hu',hv⟩:=hc i lf hz
   have:u=u':=by
    have h2:cells[i]?=some u:=by simpa using hu
    rw[hu']at h2;exact(Option.some.inj h2).symm
   subst this
   exact(key lf u hv).1
 ·obtain⟨i,hi,rfl⟩:=List.mem_iff_getElem.1 hu
  have hi2:i<zs.length:=by rw[<-hl];simpa using hi
  obtain⟨u',hu',hv⟩:=hc i zs[i] (by simp[hi2])
  have h2:cells[i]?=some cells.toList[i]:=by simp
  rw[hu']at h2
  rw[<-Option.some.inj h2]
  exact(key _ _ hv).2
theorem eAlloc_sound (hF:Facts P) {t:TypeId} (ho:o.op= .alloc t) (hg:Good X nt Z a w) (h:(eAlloc o t).Run PC Z.s v s' r wr) :
  o.wp P a w (fun a' w'=>Good X nt ⟨putE o.dst v Z.t,s'⟩ a' w') Q:=by
 obtain⟨hs,hd,J,N,hst⟩:=id hg
 unfold eAlloc at h
 split at h
 case h_2=>exact h.elim
 rename_i zs hz
 obtain⟨i,z,q1,q2,q3⟩:=hF.zero t zs hz
 obtain⟨r',wr',h⟩:=newBlk_run h
 obtain⟨rfl,rfl,-,-⟩:v=_/\s'=_/\r'=[]/\wr'=[]:=h
 obtain⟨hall,hone⟩:=zero_val (S:=Fz X w N Z.s) (J:=J) (σ:=Z.s) (w:=w) q3
 have hnb:=new_box hst (site o) (site_ge o) hall hone t
 refine sound_st hs hd ?_ hnb ?_ (u:= .pointer (some ⟨w.heap.size,0,none⟩))
 ·unfold execOp
  simp[ho,Instr.alloc,zeroValue,typeInfo,q1,q2,newVar,newRow]
 ·refine⟨by show _<=(upd Z.s _ _ _).ver;rw[upd_same];exact Nat.le_refl _,.inl ⟨_,rfl⟩,fun blk e=> ?_⟩
  rw[upd_same]at e
  cases e
  exact⟨w.heap.size,0,by rw[upd_same],rfl⟩
theorem All2.splice {R:PV->Value->Prop} {cs ps:List PV} {us vs:List Value} {j:Nat} (h1:All2 R cs us) (h2:All2 R ps vs) (hj:j+ps.length<=cs.length):All2 R (Go.Px.splice cs j ps) (Go.Px.splice us j vs):=by
 have l1:=h1.len
 have l2:=h2.len
 refine All2.of (by rw[splice_length hj,splice_length (by omega)];exact l1) fun i p u hp hu=> ?_
 by_cases hin:j<=i/\i<j+ps.length
 ·obtain⟨m,rfl⟩:∃m,i=j+m:=⟨i-j,by omega⟩
  rw[splice_in hj (by omega)]at hp
  rw[splice_in (by omega) (by omega)]at hu
  obtain⟨u',hu',hv⟩:=h2.get m p hp
  rw[hu]at hu';cases hu';exact hv
 ·rw[splice_out hj (by omega)]at hp
  rw[splice_out (by omega) (by omega)]at hu
  obtain⟨u',hu',hv⟩:=h1.get i p hp
  rw[hu]at hu';cases hu';exact hv
theorem fold_splice (off:Nat) (l:List Value) (cs:Array Value) (h:off+l.length<=cs.size):((l.toArray.zipIdx).foldl (fun cs (x:Value×Nat)=>cs.setIfInBounds (off+x.2) x.1) cs)=(splice cs.toList off l).toArray:=by
 have e:(l.toArray.zipIdx).foldl (fun cs (x:Value×Nat)=>cs.setIfInBounds (off+x.2) x.1) cs=(l.zipIdx 0).foldl (fun cs (x:Value×Nat)=>cs.setIfInBounds (off+x.2) x.1) cs:=by
  rw[<-Array.foldl_toList]
  simp
 rw[e]
 obtain⟨h1,h2⟩:=Go.Great.foldl_set off l 0 cs
 apply Array.ext_getElem?
 intro i
 rw[h2 i]
 simp only[List.getElem?_toArray]
 by_cases hin:off<=i/\i<off+l.length
 ·obtain⟨m,rfl⟩:∃m,i=off+m:=⟨i-off,by omega⟩
  rw[if_pos (by omega),splice_in (by simpa using h) (by omega)]
  congr 1;omega
 ·rw[if_neg (by omega),splice_out (by simpa using h) (by omega)]
  simp
theorem fill_run (hF:Facts P) {t:TypeId} {places:List (Nat×Nat)} (hp:∀i off ag n,fldT t i=some (off,ag,n)->places[i]?=some (off,n)) {S:Nat->Prop} {J:Nat->Option (Nat×Nat)} {σ:Sto}:∀(parts:List (Nat×PV)) (vals:List (Nat×Value)) (cs qs:List PV) (us:List Value),
  All2 (fun p q=>p.1=q.1/\ValC S w J σ p.2 q.2) parts vals->All2 (ValS S w J σ) cs us->fillP t cs parts=some qs->∃us',Instr.fill (places.toArray[·]?) us.toArray vals=some us'.toArray/\All2 (ValS S w J σ) qs us'
 | [],[],cs,qs,us,_,hc,h=>by cases h;exact⟨us,rfl,hc⟩
 | (i,v)::parts,(i',u)::vals,cs,qs,us,⟨⟨e,hv⟩,ht⟩,hc,h=>by
  simp only at e hv
  subst e
  unfold fillP at h
  split at h
  case h_2=>cases h
  rename_i off ag m hf
  split at h
  case isFalse=>cases h
  rename_i hcond
  obtain⟨c1,c2,c3⟩:=hcond
  obtain⟨xs,hx,hall,_⟩:=cellsP_val hv c2
  have hl:=hall.len
  have hcl:=hc.len
  obtain⟨us',h1,h2⟩:=fill_run hF hp parts vals _ qs _ ht (All2.splice hc hall (by omega)) h
  refine⟨us',?_,h2⟩
  have hpl:(places.toArray)[i]?=some (off,m):=by simpa using hp i off ag m hf
  rw[Instr.fill]
  simp only[hpl,hx,List.size_toArray]
  rw[if_neg (by simp;omega)]
  rw[fold_splice off xs us.toArray (by simp;omega)]
  exact h1
 | [],_::_,_,_,_,h,_,_=>h.elim
 | _::_,[],_,_,_,h,_,_=>h.elim
theorem eBuild_sound (hF:Facts P) {t:TypeId} {parts:Array (Nat×Operand)} (ho:o.op= .build t parts) (hx:(parts.toList.map (·.2)).all (opndB nt)=true) (hg:Good X nt Z a w) (h:(eBuild t (parts.toList.map fun x=>(x.1,opd Z.t x.2))).Run PC Z.s v s' r wr) :
  o.wp P a w (fun a' w'=>Good X nt ⟨putE o.dst v Z.t,s'⟩ a' w') Q:=by
 obtain⟨hs,hd,J,N,hst⟩:=id hg
 unfold eBuild at h
 split at h
 case h_2=>exact h.elim
 rename_i n zs ht hz
 split at h
 case h_2=>exact h.elim
 rename_i cs hfill
 obtain⟨rfl,rfl,-,-⟩:v=_/\s'=_/\r=[]/\wr=[]:=h
 obtain⟨it,fs,z,places,zs',q0,q1,q2,q3,q4,q5,q6⟩:=hF.bld t n ht
 rw[hz]at q0;cases q0
 obtain⟨hall,_⟩:=zero_val (S:=Fz X w N Z.s) (J:=J) (σ:=Z.s) (w:=w) q4
 have hparts:∀(l:List (Nat×Operand)),(∀x∈l,opndB nt x.2=true)->All2 (fun(p:Nat×PV) (q:Nat×Value)=>p.1=q.1/\ValC (Fz X w N Z.s) w J Z.s p.2 q.2) (l.map fun x=>(x.1,opd Z.t x.2)) (l.map fun x=>(x.1,a.eval x.2)):=by
  intro l
  induction l with
  | nil=>intro _;trivial
  | cons x l ih=>intro hl;exact⟨⟨rfl,hst.opd hs (hl x (by simp))⟩,ih fun y hy=>hl y (by simp[hy])⟩
 obtain⟨us',h1,h2⟩:=fill_run hF q6 _ _ _ _ _ (hparts parts.toList fun x hxm=>List.all_eq_true.1 hx x.2 (List.mem_map.2 ⟨x,hxm,rfl⟩)) hall hfill
 refine sound_val hs hd hst (u:= .agg us'.toArray) ?_ ⟨us'.toArray,rfl,h2⟩
 unfold execOp
 have hb:P.built t (parts.map fun x=>(x.1,a.eval x.2)).toList=some us'.toArray:=by
  unfold Program.built
  simp only[q1,q2,q3,q5]
  simpa using h1
 simp only[ho,Sem.run_bind,run_build w t _ _ hb,Result.andThen_ok,Sem.run_pure]
end
end Go.Px

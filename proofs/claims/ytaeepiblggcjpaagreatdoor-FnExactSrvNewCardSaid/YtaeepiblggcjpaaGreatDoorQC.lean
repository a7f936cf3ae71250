/- What a call may hold, as plain values and a store: a small machine over them, the functions of this program as its contracts, and the plain laws: texts Px35 to Qw. -/
import Derived.Test.YtaeepiblggcjpaaGreatDoorQB
import Derived.Lib.ConvBytes
import Derived.Laws.BytesString
import Derived.WideMake
import Derived.Test.YtaeepiblggcjpaaGreatDoorQA
set_option linter.unusedSimpArgs false
set_option linter.unusedVariables false
set_option linter.constructorNameAsVariable false
namespace Go.Px
variable {x y:Operand} {d i n nt nx off v ver:Nat} {S:Nat->Prop} {k:K} {J:Nat->Option (Nat×Nat)} {N:Nat->List Nat} {w':World} {p q:PV} {b:Blk} {f σ:Sto} {α:Type} {u:Value} {X:Ctx} {Z:Env} {o:Oper} {P:Program} {es qs:List PV}
open Go.RowKit
def eMakeSlice (o:Oper) (t:TypeId) (l c:PV):Eff PV:=match slK t,l,c with
 | some k,.v (.int _ l),.v (.int _ c)=>gdE (0<=l/\l<=c) (gdE (roomB k c.toNat) (newBlk (site o) (.rowb k (List.replicate l.toNat (zK k))) fun ver=> .ret (.ref (site o) ver 0 l.toNat true)))
 | _,_,_=> .fail
def setsE (k:K):List (ty k)->List (Nat×PV)->Eff (List (ty k))
 | l,[]=> .ret l
 | l,(i,v)::rest=>match l[i]? with
  | none=> .fail
  | some x=>(settles (cellsP v)).bind fun a=>if a.length=size k then match ofLeaves k a with
   | some y=>setsE k (l.set i y) rest
   | none=> .fail
   else .fail
def litE {α:Type}:Nat->List α->Eff (List α)
 | 0,[]=> .ret []
 | n+1,x::l=>(litE n l).bind fun ys=> .ret (x::ys)
 | _,_=> .fail
def eBuildSlice (o:Oper) (t:TypeId) (n:Nat) (parts:List (Nat×PV)):Eff PV:=match slK t with
 | some k=>if n=0 then(match parts with
   | []=>newBlk (site o) (.rowb k []) fun ver=> .ret (.ref (site o) ver 0 0 true)
   | _::_=> .fail)else if n*size k<=16777216 then(setsE k (List.replicate n (zK k)) parts).bind fun l=>(litE n l).bind fun l=>newBlk (site o) (.rowb k l) fun ver=> .ret (.ref (site o) ver 0 n true)else .fail
 | none=> .fail
section
variable {P:Program} {PC:Con} {X:Ctx} {nt:Nat} {Q:Exit->Act->World->Prop} {Z:Env} {a:Act} {w:World} {o:Oper} {v:PV} {s':Sto} {r wr:List Nat}
theorem eUn_sound {op:UnOp} {t:TypeId} (ho:o.op= .unOp op t x) (hx:opndB nt x=true) (hg:Good X nt Z a w) (h:(eUn op (opd Z.t x)).Run PC Z.s v s' r wr) :
  o.wp P a w (fun a' w'=>Good X nt ⟨putE o.dst v Z.t,s'⟩ a' w') Q:=by
 obtain⟨hs,hd,J,N,hst⟩:=id hg
 have hv:=hst.opd hs hx
 have ex:∀(u q:Value),a.eval x=u->(Op.unary op u).run P w= .ok q w->(execOp a.eval o).run P w= .ok (.value q) w:=by
  intro u q he hrun
  unfold execOp
  simp only[ho,he,Sem.run_bind,Sem.run_pure,Result.andThen_ok,hrun]
 unfold eUn at h
 split at h
 case h_4=>exact h.elim
 case h_1=>
  rename_i b he
  rw[he]at hv
  obtain⟨rfl,rfl,-,-⟩:v=_/\s'=_/\r=[]/\wr=[]:=h
  exact sound_val hs hd hst (ex _ (.bool !b) hv.1 (by simp[Op.unary])) ⟨rfl,trivial⟩
 case h_2=>
  rename_i k n he
  rw[he]at hv
  obtain⟨rfl,rfl,-⟩:=retI_run h
  exact sound_val hs hd hst (ex _ (.int k (k.wrap (0-n))) hv.1 (by simp[Op.unary,Op.intArith])) ⟨rfl,wf_wrap _ _⟩
 case h_3=>
  rename_i k n he
  rw[he]at hv
  obtain⟨rfl,rfl,-,-⟩:v=_/\s'=_/\r=[]/\wr=[]:=h
  exact sound_val hs hd hst (ex _ _ hv.1 (by simp[Op.unary,Op.intBits])) ⟨rfl,wf_wrap _ _⟩
theorem madeCells_get {z:Array Value} {m:Nat} (hm:m<n) (hz:0<z.size):(madeCells z n)[m]?=z[m % z.size]?:=by
 have hlt:m % z.size<z.size:=Nat.mod_lt _ hz
 unfold madeCells
 simp[hm,hlt]
theorem made_cont {z:Array Value} {c:Nat} (hz:ZeroC (leaves (zK k)) z) (hn:n<=c):Cont S w (List.replicate n (zK k)) (fun o=>(madeCells z (c*size k))[o]?):=by
 intro i x hx j lf hlf
 obtain⟨hi,rfl⟩:i<n/\x=zK k:=by
  have hi:=(qS1.1 hx).1
  simp at hi
  refine⟨hi,?_⟩
  rw[List.getElem?_replicate,if_pos hi]at hx
  exact(Option.some.inj hx).symm
 have hj:j<size k:=by have:=(qS1.1 hlf).1;rwa[leaves_len]at this
 have hzs:z.size=size k:=by rw[hz.1,leaves_len]
 obtain⟨u,hu,hl⟩:=hz.2 j lf hlf
 refine⟨u,?_,?_⟩
 ·show(madeCells z (c*size k))[i*size k+j]?=some u
  rw[madeCells_get (mul_lt_add (by omega) hj) (by rw[hzs];exact size_pos k),hzs,Nat.mul_comm i,Nat.mul_add_mod,Nat.mod_eq_of_lt hj]
  exact hu
 ·cases lf with
  | sc q=>exact hl
  | nest k' l'=>obtain⟨rfl,rfl⟩:=hl;exact Row.nil
theorem new_row {tm:Array Value} (h:St X Z w tm J N) (id:Nat) (hid:99<=id) {l:List (ty k)} {cur:Array Value} {cap:Nat} (h1:l.length<=9223372036854775807) (h2:l.length<=cap) (h3:cap<=maxLen) (h4:cur.size=cap*size k) (h5:Cont (Fz X w N Z.s) w l (fun o=>cur[o]?)) :
  St X ⟨Z.t,upd Z.s id ⟨(Z.s id).ver+1,some (.rowb k l)⟩⟩ (w.alloc (.cells cur (tid k))) tm (upd J id (some (w.heap.size,0))) (upd N id [w.heap.size])/\
  ValC (Fz X (w.alloc (.cells cur (tid k))) (upd N id [w.heap.size]) (upd Z.s id ⟨(Z.s id).ver+1,some (.rowb k l)⟩)) (w.alloc (.cells cur (tid k))) (upd J id (some (w.heap.size,0))) (upd Z.s id ⟨(Z.s id).ver+1,some (.rowb k l)⟩) (.ref id ((Z.s id).ver+1) 0 l.length true) (.slice (some ⟨w.heap.size,0,none⟩) l.length cap):=by
 have hheap:=heap_alloc_new w (.cells cur (tid k))
 refine⟨(new_blk (w':=w.alloc (.cells cur (tid k))) h id hid (.rowb k l) (some (w.heap.size,0)) [w.heap.size] rfl rfl rfl (by simp) (fun b hb=>Below.heap_alloc w _ b hb) (by simp) (by simp) fun T=> ?_).2,?_⟩
 ·refine .inr ⟨w.heap.size,cap,cur,by rw[upd_same],rfl,h1,RowAt.of hheap,h2,h3,h4,fun i x hx j lf hlf=> ?_⟩
  obtain⟨u,hu,hv⟩:=h5 i x hx j lf hlf
  refine⟨u,hu,?_⟩
  cases lf with
  | sc q=>exact hv
  | nest k' l'=>exact T.row hv
 ·refine⟨by show _<=(upd Z.s _ _ _).ver;rw[upd_same];exact Nat.le_refl _,⟨_,_,_,rfl⟩,fun b2 k2 l2 e hr2=> ?_⟩
  rw[upd_same]at e
  cases e
  cases hr2
  refine⟨by omega,.inr ⟨w.heap.size,cap,0,by rw[upd_same],h2,rfl,fun _=>by rw[Nat.zero_mul],fun _=>⟨rfl,rfl,fun c2 E2 fz2 hc2=> ?_⟩⟩⟩
  rw[hheap]at hc2
  cases hc2
  exact h4
theorem new_rowW {tm:Array Value} (h:St X Z w tm J N) (id:Nat) (hid:99<=id) {l:List (ty k)} {cur:Array Value} {cap:Nat} {fz:Nat×Nat} (ho:w'.os=w.os) (ht:w'.tape=w.tape) (hu:w'.output=w.output) (hz:w.heap.size<w'.heap.size)
  (hsame:∀b,b<w.heap.size->w'.heap[b]?=w.heap[b]?) (hheap:w'.heap[w.heap.size]?=some (.cells cur (tid k) fz)) (hice:NoIce (tid k) cur.size fz) (h1:l.length<=9223372036854775807) (h2:l.length<=cap) (h3:cap<=maxLen) (h4:cur.size=cap*size k) (h5:Cont (Fz X w N Z.s) w l (fun o=>cur[o]?)) :
  St X ⟨Z.t,upd Z.s id ⟨(Z.s id).ver+1,some (.rowb k l)⟩⟩ w' tm (upd J id (some (w.heap.size,0))) (upd N id [w.heap.size])/\
  ValC (Fz X w' (upd N id [w.heap.size]) (upd Z.s id ⟨(Z.s id).ver+1,some (.rowb k l)⟩)) w' (upd J id (some (w.heap.size,0))) (upd Z.s id ⟨(Z.s id).ver+1,some (.rowb k l)⟩) (.ref id ((Z.s id).ver+1) 0 l.length true) (.slice (some ⟨w.heap.size,0,none⟩) l.length cap):=by
 refine⟨(new_blk (w':=w') h id hid (.rowb k l) (some (w.heap.size,0)) [w.heap.size] ho ht hu (Nat.le_of_lt hz) hsame (by simpa using hz) (by simp) fun T=> ?_).2,?_⟩
 ·refine .inr ⟨w.heap.size,cap,cur,by rw[upd_same],rfl,h1,⟨fz,hheap,hice⟩,h2,h3,h4,fun i x hx j lf hlf=> ?_⟩
  obtain⟨u,hu,hv⟩:=h5 i x hx j lf hlf
  refine⟨u,hu,?_⟩
  cases lf with
  | sc q=>exact hv
  | nest k' l'=>exact T.row hv
 ·refine⟨by show _<=(upd Z.s _ _ _).ver;rw[upd_same];exact Nat.le_refl _,⟨_,_,_,rfl⟩,fun b2 k2 l2 e hr2=> ?_⟩
  rw[upd_same]at e
  cases e
  cases hr2
  refine⟨by omega,.inr ⟨w.heap.size,cap,0,by rw[upd_same],h2,rfl,fun _=>by rw[Nat.zero_mul],fun _=>⟨rfl,rfl,fun c2 E2 fz2 hc2=> ?_⟩⟩⟩
  rw[hheap]at hc2
  cases hc2
  exact h4
theorem eMakeSlice_sound (hF:Facts P) {t:TypeId} (ho:o.op= .makeSlice t x y) (hx:opndB nt x=true) (hy:opndB nt y=true) (hg:Good X nt Z a w) (h:(eMakeSlice o t (opd Z.t x) (opd Z.t y)).Run PC Z.s v s' r wr) :
  o.wp P a w (fun a' w'=>Good X nt ⟨putE o.dst v Z.t,s'⟩ a' w') Q:=by
 obtain⟨hs,hd,J,N,hst⟩:=id hg
 have hv:=hst.opd hs hx
 have hvy:=hst.opd hs hy
 unfold eMakeSlice at h
 split at h
 case h_2=>exact h.elim
 rename_i k kl l kc c ht he hey
 rw[he]at hv
 rw[hey]at hvy
 obtain⟨hlc,h⟩:(0<=l/\l<=c)/\_:=h
 obtain⟨⟨g1,g2⟩,h⟩:=h
 obtain⟨r',wr',h⟩:=newBlk_run h
 obtain⟨rfl,rfl,-,-⟩:v=_/\s'=_/\r'=[]/\wr'=[]:=h
 obtain⟨i,z,q1,q2,q3,q4,q5,q6⟩:=hF.el k
 have hrun:=run_make (P:=P) w t (tid k) i z (hF.sl t k ht) q1 q2 kl kc l c hlc.1 hlc.2 (by
  rw[q4]
  have:((c.toNat*byt k:Nat):Int)<=140737488355328:=by omega
  rw[Int.natCast_mul]at this
  have h2:((c.toNat:Nat):Int)=c:=by omega
  rw[h2,Int.mul_comm]at this
  omega) (by omega)
 have hnr:=new_row (l:=List.replicate l.toNat (zK k)) (cur:=madeCells z.cells (c.toNat*size k)) (cap:=c.toNat) hst (site o) (site_ge o) (by simp;omega) (by simp;omega) (by unfold maxLen;omega) (by rw[size_madeCells]) (made_cont q6 (by omega))
 simp only[List.length_replicate]at hnr
 rw[q3]at hrun
 refine sound_st hs hd ?_ hnr.1 hnr.2
 unfold execOp
 simp only[ho,hv.1,hvy.1,Sem.run_bind,Sem.run_pure,Result.andThen_ok,hrun]
theorem settle_stor {q:LeafI} {s s':Sto} {r wr:List Nat} (hr:(settle p).Run PC s q s' r wr):storable p=true:=by
 unfold settle at hr
 split at hr<;>first|rfl|exact hr.elim
theorem settles_stor:∀{ps:List PV} {qs:List LeafI} {s s':Sto} {r wr:List Nat},(settles ps).Run PC s qs s' r wr->ps.all storable=true/\qs.length=ps.length
 | [],qs,s,s',r,wr,hr=>by obtain⟨rfl,-,-,-⟩:=hr;exact⟨rfl,rfl⟩
 | p::ps,qs,s,s',r,wr,hr=>by
  obtain⟨a1,s1,r1,w1,r2,w2,k1,k2⟩:=bind_run hr
  obtain⟨a2,s2,r3,w3,r4,w4,k3,k4⟩:=bind_run k2
  obtain⟨e,e2,-,-⟩:=k4
  subst e
  obtain⟨h1,h2⟩:=settles_stor k3
  exact⟨by simp[settle_stor k1];simpa using h1,by simp[h2]⟩
theorem cont_set {l:List (ty k)} {us xs:List Value} {x y:ty k} {ls:List LeafI} (h:Cont S w l (fun o=>us[o]?)) (hl:us.length=l.length*size k) (hx:l[i]?=some x) (hv:All2 (LI S w) ls xs) (hls:ls.length=size k) (hy:ofLeaves k ls=some y) :
  Cont S w (l.set i y) (fun o=>(splice us (i*size k) xs)[o]?):=by
 have hxl:=hv.len
 have hi:i<l.length:=(qS1.1 hx).1
 have hfit:i*size k+xs.length<=us.length:=by
  have:(i+1)*size k<=l.length*size k:=Nat.mul_le_mul_right _ (by omega)
  rw[Nat.add_mul]at this;omega
 intro i' x' hx' j' lf hlf
 have hj':j'<size k:=by have:=(qS1.1 hlf).1;rwa[leaves_len]at this
 show∃u,(splice us (i*size k) xs)[i'*size k+j']?=some u/\_
 by_cases hii:i'=i
 ·subst hii
  rw[List.getElem?_set_self (by omega)]at hx'
  cases hx'
  obtain⟨lf',hlf',hI⟩:=(ofLeaves_spec hy).get j' ls[j'] (by simp[show j'<ls.length by omega])
  rw[hlf]at hlf';cases hlf'
  obtain⟨u,hu,hli⟩:=hv.get j' ls[j'] (by simp[show j'<ls.length by omega])
  exact⟨u,by rw[splice_in hfit (by omega)];exact hu,hli.leaf hI⟩
 ·rw[List.getElem?_set_ne (Ne.symm hii)]at hx'
  obtain⟨u,h9,h10⟩:=h i' x' hx' j' lf hlf
  refine⟨u,?_,h10⟩
  rw[splice_out hfit ?_]
  ·exact h9
  ·rcases Nat.lt_or_ge i' i with h11|h11
   ·left
    have:(i'+1)*size k<=i*size k:=Nat.mul_le_mul_right _ h11
    rw[Nat.add_mul]at this;omega
   ·right
    have:(i+1)*size k<=i'*size k:=Nat.mul_le_mul_right _ (by omega)
    rw[Nat.add_mul]at this;omega
theorem setsE_run {t:Nat->PV} {tm:Array Value} {J:Nat->Option (Nat×Nat)} {N:Nat->List Nat} {k:K}:∀(parts:List (Nat×PV)) (vals:List (Nat×Value)) (l l':List (ty k)) (us:List Value) (s s':Sto) (r wr:List Nat),St X ⟨t,s⟩ w tm J N->
  All2 (fun p q=>p.1=q.1/\ValC (Fz X w N s) w J s p.2 q.2) parts vals->Cont (Fz X w N s) w l (fun o=>us[o]?)->us.length=l.length*size k->(setsE k l parts).Run PC s l' s' r wr->
  ∃us':List Value,Instr.fill (fun i=>some (i*size k,size k)) us.toArray vals=some us'.toArray/\St X ⟨t,s'⟩ w tm J N/\Cont (Fz X w N s') w l' (fun o=>us'[o]?)/\us'.length=l'.length*size k/\l'.length=l.length
 | [],[],l,l',us,s,s',r,wr,h,_,hc,hl,hr=>by
  obtain⟨rfl,rfl,-,-⟩:=hr
  exact⟨us,rfl,h,hc,hl,rfl⟩
 | (i,v)::parts,(i',u)::vals,l,l',us,s,s',r,wr,h,⟨⟨e,hv⟩,ht⟩,hc,hl,hr=>by
  simp only at e hv
  subst e
  unfold setsE at hr
  split at hr
  case h_1=>exact hr.elim
  rename_i x hx
  obtain⟨ls,s1,r1,w1,r2,w2,k1,hr⟩:=bind_run hr
  split at hr
  case isFalse=>exact hr.elim
  rename_i hls
  split at hr
  case h_2=>exact hr.elim
  rename_i y hy
  obtain⟨p1,p2⟩:=settles_stor k1
  obtain⟨xs,hxs,hall,_⟩:=cellsP_val hv p1
  obtain⟨m1,m2,m3,_⟩:=settles_spec h hall k1
  have hxl:=m3.len
  have hi:i<l.length:=(qS1.1 hx).1
  have hfit:i*size k+xs.length<=us.length:=by
   have:(i+1)*size k<=l.length*size k:=Nat.mul_le_mul_right _ (by omega)
   rw[Nat.add_mul]at this;omega
  have hc1:Cont (Fz X w N s1) w l (fun o=>us[o]?):=fun i2 x2 hx2 j2 lf2 hlf2=>by
   obtain⟨u2,hu2,hv2⟩:=hc i2 x2 hx2 j2 lf2 hlf2
   refine⟨u2,hu2,?_⟩
   cases lf2 with
   | sc q=>exact hv2
   | nest k2 l2=>exact m2.row hv2
  obtain⟨us',q1,q2,q3,q4,q5⟩:=setsE_run parts vals (l.set i y) l' (splice us (i*size k) xs) s1 s' r2 w2 m1 (ht.mono fun a b hab=>⟨hab.1,m2.vc hab.2⟩) (cont_set hc1 hl hx m3 hls hy) (by rw[splice_length hfit];simpa using hl) hr
  refine⟨us',?_,q2,q3,q4,by simpa using q5⟩
  rw[Instr.fill]
  simp only[hxs,List.size_toArray]
  rw[if_neg (by simp;omega)]
  rw[fold_splice (i*size k) xs us.toArray (by simpa using hfit)]
  exact q1
 | [],_::_,_,_,_,_,_,_,_,_,h,_,_,_=>h.elim
 | _::_,[],_,_,_,_,_,_,_,_,h,_,_,_=>h.elim
theorem litE_run {α:Type} {PC:Con}:∀{n:Nat} {l l':List α} {s s':Sto} {r wr:List Nat},(litE n l).Run PC s l' s' r wr->l'=l/\s'=s/\l.length=n
 | 0,[],l',s,s',r,wr,h=>⟨h.1,h.2.1,rfl⟩
 | n+1,x::l,l',s,s',r,wr,h=>by
  unfold litE at h
  obtain⟨ys,s1,r1,w1,r2,w2,h1,h2⟩:=bind_run h
  obtain⟨rfl,rfl,h3⟩:=litE_run h1
  exact⟨h2.1,h2.2.1,congrArg (· + 1) h3⟩
 | 0,_::_,_,_,_,_,_,h=>h.elim
 | _+1,[],_,_,_,_,_,h=>h.elim
theorem eBuildSlice_sound (hF:Facts P) {t:TypeId} {parts:Array (Nat×Operand)} (ho:o.op= .buildSlice t n parts) (hx:(parts.toList.map (·.2)).all (opndB nt)=true) (hg:Good X nt Z a w) (h:(eBuildSlice o t n (parts.toList.map fun x=>(x.1,opd Z.t x.2))).Run PC Z.s v s' r wr) :
  o.wp P a w (fun a' w'=>Good X nt ⟨putE o.dst v Z.t,s'⟩ a' w') Q:=by
 obtain⟨hs,hd,J,N,hst⟩:=id hg
 unfold eBuildSlice at h
 split at h
 case h_2=>exact h.elim
 rename_i k hk
 obtain⟨i,z,q1,q2,q3,q4,q5,q6⟩:=hF.el k
 split at h
 case isTrue hn0=>
  subst hn0
  split at h
  case h_2=>exact h.elim
  rename_i hp
  obtain rfl:parts= #[]:=by
   apply Array.ext'
   simpa using hp
  obtain⟨r',wr',h⟩:=newBlk_run h
  obtain⟨rfl,rfl,-,-⟩:v=_/\s'=_/\r'=[]/\wr'=[]:=h
  obtain⟨nr1,nr2⟩:=new_row (Z:=⟨Z.t,Z.s⟩) (k:=k) (l:=[]) (cur:= #[]) (cap:=0) hst (site o) (site_ge o) (by simp) (by simp) (by unfold maxLen;omega) (by simp) (fun i x hx=>by simp at hx)
  refine sound_st hs hd (u:= .slice (some ⟨w.heap.size,0,none⟩) 0 0) ?_ nr1 nr2
  have hrun:(Instr.buildSlice t 0 #[]).run P w= .ok (.slice (some ⟨w.heap.size,0,none⟩) 0 0) (w.alloc (.cells #[] (tid k))):=by
   have e0:Array.range 0= #[]:=rfl
   simp[Instr.buildSlice,run_underlying (hF.sl t k hk),sizeOf,typeInfo,q1,Instr.fill,newRow,e0]
  unfold execOp
  simp only[ho,Sem.run_bind,Array.map_empty,hrun,Result.andThen_ok,Sem.run_pure]
 rename_i hn0
 split at h
 case isFalse=>exact h.elim
 rename_i hn
 obtain⟨l,s1,r1,w1,r2,w2,k1,h⟩:=bind_run h
 obtain⟨l',s2,r3,w3,r4,w4,k2,h'⟩:=bind_run h
 obtain⟨e1,e2,hln⟩:=litE_run k2
 rw[e1,e2]at h'
 clear h k2 e1 e2
 have h:=h'
 obtain⟨r',wr',h⟩:=newBlk_run h
 rw[<-hln]at h
 obtain⟨rfl,rfl,-,-⟩:v=_/\s'=_/\r'=[]/\wr'=[]:=h
 have hparts:∀(l:List (Nat×Operand)),(∀x∈l,opndB nt x.2=true)->All2 (fun(p:Nat×PV) (q:Nat×Value)=>p.1=q.1/\ValC (Fz X w N Z.s) w J Z.s p.2 q.2) (l.map fun x=>(x.1,opd Z.t x.2)) (l.map fun x=>(x.1,a.eval x.2)):=by
  intro l
  induction l with
  | nil=>intro _;trivial
  | cons x l ih=>intro hl;exact⟨⟨rfl,hst.opd hs (hl x (by simp))⟩,ih fun y hy=>hl y (by simp[hy])⟩
 obtain⟨us',p1,p2,p3,p4,p5⟩:=setsE_run (t:=Z.t) _ _ _ _ (madeCells z.cells (n*size k)).toList _ _ _ _ hst (hparts parts.toList fun x hxm=>List.all_eq_true.1 hx x.2 (List.mem_map.2 ⟨x,hxm,rfl⟩)) (by have:=made_cont (w:=w) (S:=Fz X w N Z.s) (n:=n) (c:=n) q6 (Nat.le_refl _);simpa using this) (by simp[size_madeCells]) k1
 simp only[List.length_replicate]at p5
 have hsz:=size_pos k
 have hnle:n<=n*size k:=Nat.le_mul_of_pos_right _ hsz
 obtain⟨nr1,nr2⟩:=new_row (Z:=⟨Z.t,s1⟩) (l:=l) (cur:=us'.toArray) (cap:=n) p2 (site o) (site_ge o) (by omega) (by omega) (by unfold maxLen;omega) (by simp[p4,p5]) (by simpa using p3)
 refine sound_st hs hd (u:= .slice (some ⟨w.heap.size,0,none⟩) l.length n) ?_ nr1 nr2
 have hrun:=run_buildSlice (P:=P) w t (tid k) n (parts.map fun x=>(x.1,a.eval x.2)) us'.toArray i z (hF.sl t k hk) q1 q2 (by rw[q3];omega) (by rw[q3];have:=Nat.mul_pos (by omega:0<n) hsz;omega) (by rw[q3,Array.toList_map];rw[Array.toArray_toList]at p1;exact p1)
 unfold execOp
 simp only[ho,Sem.run_bind,hrun,Result.andThen_ok,Sem.run_pure,p5]
end
open Go.RowKit
def eToBytes (o:Oper) (src dst:TypeId) (x:PV):Eff PV:=match cvT src dst,x with
 | some .toBytes,.v (.string s)=>newBlk (site o) (.rowb .u8 s.data.toList) fun ver=> .ret (.ref (site o) ver 0 s.data.toList.length true)
 | _,_=> .fail
def eToStr (src dst:TypeId) (x:PV):Eff PV:=match cvT src dst with
 | some .toStr=>(elemsE .u8 x).bind fun l=> .ret (.v (.string ⟨l.toArray⟩))
 | _=> .fail
section
variable {P:Program} {PC:Con} {X:Ctx} {nt:Nat} {Q:Exit->Act->World->Prop} {Z:Env} {a:Act} {w:World} {o:Oper} {v:PV} {s':Sto} {r wr:List Nat}
theorem eField_sound (hF:Facts P) {t:TypeId} (ho:o.op= .field t x i) (hx:opndB nt x=true) (hg:Good X nt Z a w) (h:(eField t i (opd Z.t x)).Run PC Z.s v s' r wr) :
  o.wp P a w (fun a' w'=>Good X nt ⟨putE o.dst v Z.t,s'⟩ a' w') Q:=by
 obtain⟨hs,hd,J,N,hst⟩:=id hg
 have hv:=hst.opd hs hx
 unfold eField at h
 split at h
 case h_2=>exact h.elim
 rename_i off ag n hf
 split at h
 case h_2=>exact h.elim
 rename_i cs he
 rw[he]at hv
 obtain⟨us,hu,hall⟩:=hv
 obtain⟨hn,fs,f,q1,q2,q3,q4,q5,q6⟩:=hF.fld t i off ag n hf
 unfold rangeV at h
 split at h
 case isFalse=>exact h.elim
 rename_i hlen
 have hul:cs.length=us.size:=by simpa using hall.len
 have hex:∀q,(part f.type us off).run P w= .ok q w->(execOp a.eval o).run P w= .ok (.value q) w:=by
  intro q hq
  unfold execOp
  simp only[ho,hu,Instr.field,run_underlying q1,q2,q3,asAgg,Sem.run_bind,Sem.run_pure,Result.andThen_ok,hq]
 cases hq:P.info? f.type with
 | none=>simp[hq]at q5
 | some inf=>
 have hsz:inf.size=n:=by simpa [hq]using q5
 unfold mkVal at h
 cases ag with
 | true=>
  obtain⟨rfl,rfl,-,-⟩:v=_/\s'=_/\r=[]/\wr=[]:=h
  refine sound_val hs hd hst (hex (.agg (us.extract off (off+n))) ?_) ⟨_,rfl,?_⟩
  ·simp[part,q4 w,sizeOf,typeInfo,hq,hsz]
  ·refine All2.of (by simp only[List.length_take,List.length_drop,Array.toList_extract,List.extract_eq_take_drop,Array.length_toList];omega) fun j p u hp hu2=> ?_
   rw[List.getElem?_take]at hp
   split at hp
   ·rename_i hj
    rw[List.getElem?_drop]at hp
    obtain⟨u',hu',hv'⟩:=hall.get _ p hp
    have h2:us[off+j]?=some u:=by
     simp only[Array.toList_extract,List.extract_eq_take_drop,Nat.add_sub_cancel_left]at hu2
     rw[List.getElem?_take,if_pos hj,List.getElem?_drop]at hu2
     simpa using hu2
    have h3:us[off+j]?=some u':=by simpa using hu'
    rw[h2]at h3;cases h3
    exact hv'
   ·cases hp
 | false=>
  obtain rfl:=q6 rfl
  simp only[Bool.false_eq_true,if_false]at h
  split at h
  ·rename_i c hcs
   obtain⟨rfl,rfl,-,-⟩:v=_/\s'=_/\r=[]/\wr=[]:=h
   have hc:cs[off]?=some v:=by
    have:((cs.drop off).take 1)[0]?=some v:=by rw[hcs];rfl
    rw[List.getElem?_take,if_pos (by omega),List.getElem?_drop]at this
    exact this
   obtain⟨u',hu',hv'⟩:=hall.get _ _ hc
   have h3:us[off]?=some u':=by simpa using hu'
   refine sound_val hs hd hst (hex u' ?_) ?_
   ·simp[part,q4 w,h3]
   ·cases v<;>first|exact hv'|exact hv'.elim
  ·exact h.elim
theorem eMin_sound {b:Bool} {xs:Array Operand} {ats:Array TypeId} (ho:o.op= .call {callee:= .builtin (if b then .max else .min),args:=xs,argTypes:=ats}) (hx:xs.toList.all (opndB nt)=true) (hg:Good X nt Z a w) (h:(eMin b (xs.toList.map (opd Z.t))).Run PC Z.s v s' r wr) :
  o.wp P a w (fun a' w'=>Good X nt ⟨putE o.dst v Z.t,s'⟩ a' w') Q:=by
 obtain⟨hs,hd,J,N,hst⟩:=id hg
 unfold eMin at h
 split at h
 case h_2=>exact h.elim
 rename_i k p k' q he
 split at h
 case isFalse=>exact h.elim
 rename_i hk
 subst hk
 have hargs:All2 (ValC (Fz X w N Z.s) w J Z.s) (xs.toList.map (opd Z.t)) (xs.toList.map a.eval):=All2.map_args fun x hxm=>hst.opd hs (List.all_eq_true.1 hx x hxm)
 rw[he]at hargs
 obtain⟨rfl,rfl,-,-⟩:v=_/\s'=_/\r=[]/\wr=[]:=h
 match hm:xs.toList.map a.eval,hargs with
 | [u1,u2],⟨h1,h2,_⟩=>
  obtain⟨rfl,hw1⟩:=h1
  obtain⟨rfl,hw2⟩:=h2
  have hmap:xs.map a.eval= #[.int k p,.int k q]:=by
   apply Array.ext'
   simpa using hm
  refine sound_val hs hd hst (u:= .int k (if b then(if p<q then q else p)else(if q<p then q else p))) ?_ ⟨rfl,?_⟩
  ·unfold execOp
   cases b with
   | true=>
    have hrun:(Builtin.max_ ats o.type #[.int k p,.int k q]).run P w= .ok (.int k (if p<q then q else p)) w:=by simp[Builtin.max_,Builtin.max2,List.foldlM]
    simp only[ho,if_true,resolve,invoke,builtin,hmap,Sem.run_bind,Sem.run_pure,Result.andThen_ok,hrun]
   | false=>
    have hrun:(Builtin.min_ ats o.type #[.int k p,.int k q]).run P w= .ok (.int k (if q<p then q else p)) w:=by simp[Builtin.min_,Builtin.min2,List.foldlM]
    simp only[ho,if_false,Bool.false_eq_true,resolve,invoke,builtin,hmap,Sem.run_bind,Sem.run_pure,Result.andThen_ok,hrun]
  ·cases b<;>simp only[Bool.false_eq_true,if_false,if_true]<;>split<;>assumption
theorem eToBytes_sound (hF:Facts P) {src dst:TypeId} (ho:o.op= .convert src dst x) (hx:opndB nt x=true) (hg:Good X nt Z a w) (h:(eToBytes o src dst (opd Z.t x)).Run PC Z.s v s' r wr) :
  o.wp P a w (fun a' w'=>Good X nt ⟨putE o.dst v Z.t,s'⟩ a' w') Q:=by
 obtain⟨hs,hd,J,N,hst⟩:=id hg
 have hv:=hst.opd hs hx
 unfold eToBytes at h
 split at h
 case h_2=>exact h.elim
 rename_i s hcv he
 rw[he]at hv
 obtain⟨r',wr',h⟩:=newBlk_run h
 obtain⟨rfl,rfl,-,-⟩:v=_/\s'=_/\r'=[]/\wr'=[]:=h
 obtain⟨⟨d,hsrc⟩,hdst,hel⟩:=hF.cvB _ _ hcv
 have hrun:=Go.Lib.run_convert_string_bytes (P:=P) w src dst (tid .u8) s hsrc hdst hel
 have hsz:s.data.toList.length=s.size:=Array.length_toList
 have hwf:s.size<=9223372036854775807:=hv.2
 have hge:=grownCap_ge w s.size 0 (tid .u8)
 have hnew:=Go.Lib.bytesWorld_at_new w (tid .u8) s
 have hcs:(Go.Lib.bytesCells w (tid .u8) s).size=grownCap w s.size 0 (tid .u8)*size .u8:=by
  show _=grownCap w s.size 0 (tid .u8)*1
  have:s.data.size=s.size:=rfl
  simp[Go.Lib.bytesCells,this];omega
 have hnr:=new_rowW (l:=s.data.toList) (k:= .u8) (cur:=Go.Lib.bytesCells w (tid .u8) s) (cap:=grownCap w s.size 0 (tid .u8)) hst (site o) (site_ge o) (w':=Go.Lib.bytesWorld w (tid .u8) s) rfl rfl rfl
  (by rw[Go.Lib.bytesWorld_size];omega) (fun b hb=>Go.Lib.bytesWorld_at_old w (tid .u8) s b hb) hnew (.inr ⟨Nat.le_refl _,rfl⟩) (by omega) (by omega) (grownCap_le_maxLen _ _ _ _ (by unfold maxLen;exact hwf)) hcs
  (fun i x hx j lf hlf=>by
   have hj:j<size .u8:=by have:=(qS1.1 hlf).1;rwa[leaves_len]at this
   have hj0:j=0:=by have h1:size .u8=1:=rfl;omega
   subst hj0
   have e:lf= .sc (.int .u8 x.toNat):=by
    have:(leaves (k:= .u8) x)[0]?=some (.sc (.int .u8 x.toNat)):=rfl
    rw[this]at hlf;exact(Option.some.inj hlf).symm
   subst e
   refine⟨.int .u8 x.toNat,?_,rfl,?_⟩
   ·show(Go.Lib.bytesCells w (tid .u8) s)[i*1+0]?=_
    have hx2:s.data[i]?=some x:=by simpa using hx
    have hlt:i<s.data.size:=(Array.getElem?_eq_some_iff.1 hx2).1
    unfold Go.Lib.bytesCells
    rw[Array.getElem?_append_left (by simpa using hlt),Nat.mul_one,Nat.add_zero,Array.getElem?_map,hx2]
    rfl
   ·refine(wrap_iff .u8 _).2 ?_
    have:=x.toNat_lt
    simp[loK,hiK];omega)
 refine sound_st hs hd ?_ hnr.1 hnr.2
 have hrun':(convert src dst (.string s)).run P w= .ok (.slice (some ⟨w.heap.size,0,none⟩) s.data.toList.length (grownCap w s.size 0 (tid .u8))) (Go.Lib.bytesWorld w (tid .u8) s):=by rw[hsz];exact hrun
 unfold execOp
 simp only[ho,hv.1,Sem.run_bind,Sem.run_pure,Result.andThen_ok,hrun']
theorem eToStr_sound (hF:Facts P) {src dst:TypeId} (ho:o.op= .convert src dst x) (hx:opndB nt x=true) (hg:Good X nt Z a w) (h:(eToStr src dst (opd Z.t x)).Run PC Z.s v s' r wr) :
  o.wp P a w (fun a' w'=>Good X nt ⟨putE o.dst v Z.t,s'⟩ a' w') Q:=by
 obtain⟨hs,hd,J,N,hst⟩:=id hg
 have hv:=hst.opd hs hx
 unfold eToStr at h
 split at h
 case h_2=>exact h.elim
 rename_i hcv
 obtain⟨hsrc,hdst,hel⟩:=hF.cvS _ _ hcv
 obtain⟨l,s1,r1,w1,r2,w2,h1,h⟩:=bind_run h
 obtain⟨rfl,rfl,-,-⟩:v=_/\s'=_/\r2=[]/\w2=[]:=h
 obtain⟨rfl,pa,c,xs,he,hfc,hnews⟩:=elemsE_run hst hv h1
 have hxs:xs=(l.map fun b=>(b.toNat:Int)).map (Value.int .u8):=by
  apply List.ext_getElem?
  intro i
  rw[List.getElem?_map,List.getElem?_map]
  have hl1:xs.length=l.length:=by have:=hfc.1;rw[show size .u8=1 from rfl,Nat.mul_one]at this;exact this
  by_cases hi:i<l.length
  ·obtain⟨u,hu,hq⟩:=hfc.2 i l[i] (by simp[hi]) 0 (.sc (.int .u8 l[i].toNat)) rfl
   obtain⟨rfl,_⟩:=hq
   have hu2:xs[i]?=some (.int .u8 l[i].toNat):=by
    have h3:i*size .u8+0=i:=by rw[show size .u8=1 from rfl];omega
    simp only[h3]at hu;exact hu
   rw[hu2]
   simp[hi]
  ·rw[List.getElem?_eq_none (by omega),List.getElem?_eq_none (by omega)];rfl
 have hfold:∀(l:List UInt8) (s:ByteArray),(l.map fun b=>(b.toNat:Int)).foldl (fun r n=>r.push (UInt8.ofNat n.toNat)) s=⟨s.data++l.toArray⟩:=by
  intro l
  induction l with
  | nil=>intro s;simp
  | cons b l ih=>
   intro s
   simp only[List.map_cons,List.foldl_cons,ih]
   congr 1
   simp[ByteArray.push]
 have hlen:l.length<=9223372036854775807:=by
  rcases pa with _|_
  ·by_cases hne:l=[]
   ·rw[hne];simp
   ·obtain⟨b,off,e,_⟩:=hnews hne;cases e
  ·exact elemsE_len hst hv h1
 refine sound_val hs hd hst (u:= .string ⟨l.toArray⟩) ?_ ⟨rfl,by show(ByteArray.mk l.toArray).size<=_;simpa [ByteArray.size]using hlen⟩
 have hrun:(convert src dst (.slice pa l.length c)).run P w= .ok (.string ⟨l.toArray⟩) w:=by
  rw[run_convert_bytes_string w src dst (tid .u8) pa l.length c hsrc hel hdst]
  cases pa with
  | none=>
   have hne:l=[]:=by
    by_cases hne:l=[]
    ·exact hne
    ·obtain⟨b,off,e,_⟩:=hnews hne;cases e
   subst hne
   simp[Conv.bytesToString]
   rfl
  | some ad=>
   have hload:(loadCells ad l.length).run P w= .ok ((l.map fun b=>(b.toNat:Int)).map (Value.int .u8)).toArray w:=by
    have hl1:xs.length=l.length:=by rw[hxs];simp
    rw[<-hxs,<-hl1]
    refine run_loadCells_list (P:=P) w ad xs fun j u hu=> ?_
    have hne:l≠[]:=by
     intro e
     rw[e]at hl1
     have:xs=[]:=List.eq_nil_of_length_eq_zero hl1
     rw[this]at hu;simp at hu
    obtain⟨b,off,e,h2⟩:=hnews hne
    cases e
    rw[addr_add]
    exact h2 j u hu
   rw[run_bytesToString w ad l.length c _ hload,hfold]
   simp
 unfold execOp
 simp only[ho,he,Sem.run_bind,Sem.run_pure,Result.andThen_ok,hrun]
end
open Go.RowKit
section
variable {P:Program} {PC:Con} {X:Ctx} {nt:Nat} {Q:Exit->Act->World->Prop} {Z:Env} {a:Act} {w:World} {o:Oper} {v:PV} {t:Nat->PV} {s s':Sto} {r wr:List Nat}
variable {J:Nat->Option (Nat×Nat)} {N:Nat->List Nat} {tm:Array Value} {S:Nat->Prop} {σ:Sto}
theorem take_step (h:St X Z w tm J N) (id ver:Nat) (h99:99<=id) (hver:(Z.s id).ver<ver) {A:List Nat} (hidA:id∉A) (hAr:∀a∈A,∃blk,(Z.s a).blk=some blk/\∀cs,blk≠ .box cs) (h99A:∀a∈A,99<=a)
  {k:K} {l:List (ty k)} {v':Value} {xs:List Value} (hl:l.length<=9223372036854775807) (hown:OwnsRow w' (tid k) (size k) v' l.length xs) {L:List Nat} (hd:All3 (DLeaf w') (l.flatMap leaves) xs L) (hLn:L.Nodup)
  {vo:Option Nat} (hg:w.grownBy w' vo) (hvo:∀g,vo=some g->∃j blk,(j=id∨j∈A)/\(Z.s j).blk=some blk/\g∈N j) (hvb:v'.ownBlock=vo∨v'.ownBlock=some w.heap.size)
  (hL:∀x∈L,∃j blk,(j=id∨j∈A)/\(Z.s j).blk=some blk/\x∈N j) (hgL:∀g,v'.ownBlock=some g->g∉L) :
  ∃J' N',St X ⟨Z.t,upd (dropS A Z.s) id ⟨ver,some (.rowd k l)⟩⟩ w' tm J' N'/\ValC (Fz X w' N' (upd (dropS A Z.s) id ⟨ver,some (.rowd k l)⟩)) w' J' (upd (dropS A Z.s) id ⟨ver,some (.rowd k l)⟩) (.ref id ver 0 l.length true) v':=by
 have hid:∀p,X.ext[id]?≠some p:=fun p hp=>by
  have:=(qS1.1 hp).1
  have:=X.few
  omega
 obtain⟨p,M,hpM⟩:∃(p:Option (Nat×Nat)) (M:List Nat),(p=none/\l=[]/\M=[]/\v'= .slice none 0 0)∨∃b cap cur,p=some (b,0)/\M=b::L/\v'= .slice (some ⟨b,0,none⟩) l.length cap/\(vo=some b∨(b=w.heap.size/\b<w'.heap.size))/\DAt w' b l cap cur L:=by
  rcases hown.2 with⟨h1,h2⟩ |⟨g,cap,cur,h1,_,h3,h4,h5,h6,h7⟩
  ·exact⟨none,[],.inl ⟨rfl,List.eq_nil_of_length_eq_zero h2,rfl,h1⟩⟩
  ·refine⟨some (g,0),g::L,.inr ⟨g,cap,cur,rfl,rfl,h1,?_,hl,h3,h4,h5,h6,by rw[h7];exact hd⟩⟩
   rw[show v'.ownBlock=some g by rw[h1];simp[Value.ownBlock]]at hvb
   rcases hvb with e|e
   ·exact .inl e.symm
   ·injection e with e;subst e;exact .inr ⟨rfl,h3.lt⟩
 have hsame:∀x,x<w.heap.size->(∀i blk,(i=id∨i∈A)->(Z.s i).blk=some blk->x∉N i)->w'.heap[x]?=w.heap[x]?:=by
  intro x hxz hc
  refine hg.block x hxz fun e=> ?_
  obtain⟨j,blk,hj,h1,h2⟩:=hvo x e.symm
  exact hc j blk hj h1 h2
 let σ':Sto:=upd (dropS A Z.s) id ⟨ver,some (.rowd k l)⟩
 have hσid:σ' id=⟨ver,some (.rowd k l)⟩:=upd_same _ _ _
 have hσA:∀a∈A,σ' a=⟨(Z.s a).ver,none⟩:=fun a ha=>by
  show upd _ _ _ a=_
  rw[upd_ne _ _ (fun e=>by subst e;exact hidA ha),dropS_at,if_pos ha]
 have hσo:∀j,j≠id->j∉A->σ' j=Z.s j:=fun j h1 h2=>by
  show upd _ _ _ j=_
  rw[upd_ne _ _ h1,dropS_at,if_neg h2]
 obtain⟨T,hst'⟩:=St.step (Z:=Z) h σ' (fun j=>j=id∨j∈A) (w':=w') (J':=upd J id p) (N':=upd N id M) hg.size hsame (fun i hi=>⟨hσo i (fun e=>hi (.inl e)) (fun e=>hi (.inr e)),upd_ne _ _ (fun e=>hi (.inl e)),upd_ne _ _ (fun e=>hi (.inl e))⟩)
  (by
   rintro i (rfl|hi) v o n f u ⟨k1,k2,k3⟩
   ·refine⟨by rw[hσid];exact Nat.le_of_lt (Nat.lt_of_le_of_lt k1 hver),k2,fun blk k l e hr=> ?_⟩
    rw[hσid]at e
    cases e
    omega
   ·refine⟨by rw[hσA i hi];exact k1,k2,fun blk k l e hr=> ?_⟩
    rw[hσA i hi]at e
    cases e)
  (by
   rintro i (rfl|hi) v i' j' u ⟨k1,k2,k3⟩
   ·refine⟨by rw[hσid];exact Nat.le_of_lt (Nat.lt_of_le_of_lt k1 hver),k2,fun blk e=> ?_⟩
    rw[hσid]at e
    cases e
    omega
   ·refine⟨by rw[hσA i hi];exact k1,k2,fun blk e=> ?_⟩
    rw[hσA i hi]at e
    cases e)
  (by
   rintro i blk (rfl|hi) hbk T
   ·rw[hσid]at hbk
    cases hbk
    rw[upd_same]
    rcases hpM with⟨h1,h2,h3,_⟩ |⟨b,cap,cur,h1,h2,h3,_,h4⟩
    ·exact .inl ⟨by rw[upd_same];exact h1,h2,h3⟩
    ·exact .inr ⟨b,cap,cur,L,by rw[upd_same];exact h1,h2,h4⟩
   ·rw[hσA i hi]at hbk;cases hbk)
  (by
   rintro i blk (rfl|hi) hbk x hx
   ·rw[upd_same]at hx
    rcases hpM with⟨h1,h2,h3,_⟩ |⟨b,cap,cur,h1,h4,h5,h3,_⟩
    ·rw[h3]at hx;simp at hx
    ·rw[h4]at hx
     rcases List.mem_cons.1 hx with rfl|hx
     ·rcases h3 with h3|⟨h3,h6⟩
      ·obtain⟨j,blk,hj,h7,h8⟩:=hvo x h3
       exact .inl ⟨j,blk,hj,h7,h8⟩
      ·exact .inr ⟨by omega,h6⟩
     ·obtain⟨j,blk,hj,h7,h8⟩:=hL x hx
      exact .inl ⟨j,blk,hj,h7,h8⟩
   ·rw[hσA i hi]at hbk;cases hbk)
  (by
   rintro i blk (rfl|hi) hbk
   ·rw[upd_same]
    rcases hpM with⟨h1,h2,h3,h4⟩ |⟨b,cap,cur,h1,h4,h5,_⟩
    ·rw[h3];simp
    ·rw[h4];exact List.nodup_cons.2 ⟨hgL b (by rw[h5];simp[Value.ownBlock]),hLn⟩
   ·rw[hσA i hi]at hbk;cases hbk)
  (by
   rintro i i' b1 b2 (rfl|hi) (rfl|hi') hb1 hb2 hne
   ·exact absurd rfl hne
   ·rw[hσA i' hi']at hb2;cases hb2
   ·rw[hσA i hi]at hb1;cases hb1
   ·rw[hσA i hi]at hb1;cases hb1)
  (by
   rintro i q hq (rfl|hi)
   ·exact absurd hq (hid q)
   ·obtain⟨_,cs,e,_⟩:=h.ext i q hq
    obtain⟨blk,e2,e3⟩:=hAr i hi
    rw[e]at e2;cases e2
    exact absurd rfl (e3 cs))
  (by
   rintro q u n hq (e|e)
   ·exact absurd e (h.rx_far h99 q u n hq)
   ·exact absurd rfl (h.rx_far (h99A _ e) q u n hq))
  (by
   cases hvo2:vo with
   | none=>exact h.frm.grow hg.os hg.tape hg.output hg.size fun b hb=>hg.block b hb (by rw[hvo2];simp)
   | some g=>
    obtain⟨j,blk,hj,h1,h2⟩:=hvo g hvo2
    refine Frm.turn h j blk h1 hg.os hg.tape hg.output hg.size (fun b hb hn=>hg.block b hb fun e=>hn ?_) fun i2 b2 off2 n hi2 hn hm=> ?_
    ·rw[hvo2]at e;cases e;exact h2
    ·exfalso
     obtain⟨e1,cs',e2,e3⟩:=h.ext i2 _ hi2
     have hne:i2≠j:=fun e=>by
      subst e
      rcases hj with rfl|hj
      ·exact hid _ hi2
      ·obtain⟨blk',q1,q2⟩:=hAr i2 hj
       rw[e2]at q1;cases q1;exact q2 _ rfl
     have hb2:=h.blk i2 _ e2
     obtain⟨b3,off3,_,_,p1,p2,_⟩:=hb2
     rw[e1]at p1
     cases p1
     exact h.disj i2 j _ _ e2 h1 hne b2 (by rw[p2];simp) hm)
  (by
   refine X.cl w w' h.env fun b hb=>hsame b (by have:=X.hw;have:=h.frm.size;omega) ?_
   rintro i blk hi h1 hm
   rcases h.new i blk h1 b hm with h2|h2
   ·have:=X.hG b h2;omega
   ·have:=X.hw;omega)
 refine⟨_,_,hst',?_⟩
 show RefC w' (upd J id p) σ' id ver 0 l.length true v'
 refine ref_full hσid .d ?_
 rw[upd_same]
 rcases hpM with⟨h1,h2,h3,h4⟩ |⟨b,cap,cur,h1,h4,h5,h6,h7⟩
 ·exact .inl ⟨h1,h2,h4⟩
 ·exact .inr ⟨b,cap,cur,h1,h5,h7.2.1,h7.2.2.1,h7.2.2.2.2.1⟩
theorem undeep_spec (h:St X ⟨t,s⟩ w tm J N) {id:Nat} {l:List (ty k)} (hid:s id=⟨ver,some (.rowd k l)⟩) :
  ∃N',St X ⟨t,upd s id ⟨ver,some (.rowb k l)⟩⟩ w tm J N'/\Tr (Fz X w N s) (Fz X w N' (upd s id ⟨ver,some (.rowb k l)⟩)) w w J J s (upd s id ⟨ver,some (.rowb k l)⟩):=by
 have hb0:(s id).blk=some (.rowd k l):=by rw[hid]
 have hbk:=h.blk id _ hb0
 obtain⟨L,hL,hsub,hbC⟩:∃L:List Nat,L.Nodup/\(∀x∈L,x∈N id)/\∀(S':Nat->Prop) σ,(∀x∈N id,x∉L->S' x)->BlkC S' w J σ L id (.rowb k l):=by
  rcases hbk with⟨h1,h2,h3⟩ |⟨b,cap,cur,L,h1,h2,h3⟩
  ·exact⟨[],List.nodup_nil,(fun x hx=>by cases hx),fun S' σ _=> .inl ⟨h1,h2,rfl⟩⟩
  ·refine⟨[b],by simp,(fun x hx=>by rw[h2,List.mem_singleton.1 hx];simp),fun S' σ hS'=> .inr ⟨b,cap,cur,h1,rfl,h3.cont fun x hx=>hS' x (by rw[h2];simp[hx]) fun hm=> ?_⟩⟩
   have hn:(b::L).Nodup:=by rw[<-h2];exact h.nodup id _ hb0
   rw[List.mem_singleton.1 hm]at hx
   exact(List.nodup_cons.1 hn).1 hx
 have hfz:∀x∈N id,x∉L->Fz X w (upd N id L) (upd s id ⟨ver,some (.rowb k l)⟩) x:=fun x hx hxL=>by
  refine⟨h.lt id _ hb0 x hx,?_,.inr (h.new id _ hb0 x hx)⟩
  rintro⟨i,bk,q1,q2⟩
  by_cases hi:i=id
  ·subst hi;rw[upd_same]at q2;exact hxL q2
  ·rw[upd_ne _ _ hi]at q1 q2;exact h.disj i id _ _ q1 hb0 hi x q2 hx
 have:=St.step (Z:=⟨t,s⟩) h (upd s id ⟨ver,some (.rowb k l)⟩) (· = id) (w':=w) (J':=J) (N':=upd N id L) (Nat.le_refl _) (fun _ _ _=>rfl) (fun i hi=>⟨upd_ne _ _ hi,rfl,upd_ne _ _ hi⟩)
  (by
   rintro i rfl v o n f u ⟨k1,k2,k3⟩
   refine⟨by rw[upd_same];have k1:v<=(s i).ver:=k1;rw[hid]at k1;exact k1,k2,fun b2 k2' l2 e hr2=> ?_⟩
   rw[upd_same]at e
   cases e
   cases hr2
   exact k3 _ _ _ hid .d)
  (by
   rintro i rfl v i' j' u ⟨k1,k2,k3⟩
   refine⟨by rw[upd_same];have k1:v<=(s i).ver:=k1;rw[hid]at k1;exact k1,k2,fun b2 e=> ?_⟩
   rw[upd_same]at e
   cases e
   exact k3 _ hid)
  (by
   rintro i b rfl hb T
   rw[upd_same]at hb
   cases hb
   rw[upd_same]
   exact hbC _ _ hfz)
  (by
   rintro i b rfl hb x hx
   rw[upd_same]at hx
   exact .inl ⟨i,_,rfl,hb0,hsub x hx⟩)
  (by
   rintro i b rfl hb
   rw[upd_same]
   exact hL)
  (by
   rintro i i' b b' rfl rfl _ _ hne
   exact absurd rfl hne)
  (by
   rintro j p hj rfl
   obtain⟨_,cs,e,_⟩:=h.ext j p hj
   have e:(s j).blk=_:=e
   rw[hb0]at e;cases e)
  (fun q u n hq e=>h.rx_same hid .d .b rfl q u n hq e) h.frm h.env
 exact⟨_,this.2,this.1⟩
end
open Go.RowKit
def rdL {α:Type}:List Nat->Sto->(Sto->Eff α)->Eff α
 | [],f,k=>k f
 | id::l,f,k=> .rd id fun e=>rdL l (upd f id e) k
def zS:Sto:=fun _=>⟨0,none⟩
def refsL:List PV->List Nat
 | []=> []
 | .ref id _ _ _ _::l=>id::refsL l
 | .ptr id _ _ _::l=>id::refsL l
 | _::l=>refsL l
def unfE {α:Type} (id:Nat) (next:Eff α):Eff α:= .rd id fun e=>match e with
 | ⟨ver,some (.rowx k l i cs)⟩=>rdL (refsL cs) zS fun f=>match closeX f k cs with
  | some (y,A)=>dropL A (.wr id ⟨ver,some (.rowd k (l.set i y))⟩ next)
  | none=> .fail
 | _=>next
def unfL {α:Type}:List Nat->Eff α->Eff α
 | [],k=>k
 | id::l,k=>unfE id (unfL l k)
def undE {α:Type} (p:PV) (next:Eff α):Eff α:=match p with
 | .ref id _ _ _ _=> .rd id fun e=>match e with
  | ⟨ver,some (.rowd k l)⟩=> .wr id ⟨ver,some (.rowb k l)⟩ next
  | _=>next
 | _=>next
section
variable {P:Program} {PC:Con} {X:Ctx} {nt:Nat} {Q:Exit->Act->World->Prop} {Z:Env} {a:Act} {w:World} {o:Oper} {v:PV} {t:Nat->PV} {s s':Sto} {r wr:List Nat}
variable {J:Nat->Option (Nat×Nat)} {N:Nat->List Nat} {tm:Array Value} {S:Nat->Prop} {σ:Sto}
theorem rdL_run {α:Type} {k:Sto->Eff α} {b:α}:∀{ids:List Nat} {f:Sto} {r wr:List Nat},(rdL ids f k).Run PC s b s' r wr->∃f' r',(∀i,i∈ids->f' i=s i)/\(∀i,i∉ids->f' i=f i)/\(k f').Run PC s b s' r' wr
 | [],f,r,wr,h=>⟨f,r,(fun _ h=>by cases h),fun _ _=>rfl,h⟩
 | id::l,f,r,wr,h=>by
  obtain⟨r1,rfl,h⟩:=h
  obtain⟨f',r',h1,h2,h3⟩:=rdL_run h
  refine⟨f',r',fun i hi=> ?_,fun i hi=> ?_,h3⟩
  ·by_cases hl:i∈l
   ·exact h1 i hl
   ·have:i=id:=by simpa [hl]using hi
    subst this
    rw[h2 i hl,upd_same]
  ·simp only[List.mem_cons,not_or]at hi
   rw[h2 i hi.2,upd_ne _ _ hi.1]
theorem closeS_congr {g:Sto} (h:∀i,i∈refsL [p]->f i=g i):closeS f p=closeS g p:=by
 cases p with
 | ref id ver off n full=>simp only[closeS];rw[h id (by simp[refsL])]
 | ptr id ver i j=>simp only[closeS];rw[h id (by simp[refsL])]
 | row own k l=>cases own<;>rfl
 | _=>rfl
theorem closeL_congr {f g:Sto}:∀{cs:List PV},(∀i,i∈refsL cs->f i=g i)->closeL f cs=closeL g cs
 | [],_=>rfl
 | p::ps,h=>by
  have h1:∀i,i∈refsL [p]->f i=g i:=fun i hi=>h i (by cases p<;>simp_all[refsL])
  have h2:∀i,i∈refsL ps->f i=g i:=fun i hi=>h i (by cases p<;>simp_all[refsL])
  unfold closeL
  rw[closeS_congr h1,closeL_congr h2]
theorem closeX_congr {g:Sto} {cs:List PV} (h:∀i,i∈refsL cs->f i=g i):closeX f k cs=closeX g k cs:=by
 unfold closeX
 rw[closeL_congr h]
theorem unfE_run {id:Nat} {next:Eff α} {b:α} (h:St X ⟨t,s⟩ w tm J N) (hr:(unfE id next).Run PC s b s' r wr):∃s1 N1 r1 w1,St X ⟨t,s1⟩ w tm J N1/\next.Run PC s1 b s' r1 w1:=by
 obtain⟨r',rfl,hr⟩:=hr
 simp only at hr
 split at hr
 ·rename_i ver k l i cs he
  obtain⟨f,r2,h1,_,hr⟩:=rdL_run hr
  rw[closeX_congr h1]at hr
  split at hr
  ·rename_i y A hc
   obtain⟨r3,w3,hr⟩:=dropL_run hr
   obtain⟨w4,rfl,hr⟩:=hr
   obtain⟨N',st,_⟩:=unfocus_spec h he hc
   exact⟨_,_,_,_,st,hr⟩
  ·exact hr.elim
 ·exact⟨_,_,_,_,h,hr⟩
theorem unfL_run {α:Type} {next:Eff α} {b:α}:∀{ids:List Nat} {s:Sto} {N:Nat->List Nat} {r wr:List Nat},St X ⟨t,s⟩ w tm J N->(unfL ids next).Run PC s b s' r wr->∃s1 N1 r1 w1,St X ⟨t,s1⟩ w tm J N1/\next.Run PC s1 b s' r1 w1
 | [],s,N,r,wr,h,hr=>⟨_,_,_,_,h,hr⟩
 | id::l,s,N,r,wr,h,hr=>by
  obtain⟨s1,N1,r1,w1,h1,h2⟩:=unfE_run h hr
  exact unfL_run h1 h2
theorem unfL_good {ids:List Nat} {E:Eff α} {b:α} (hg:Good X nt Z a w) (h:(unfL ids E).Run PC Z.s b s' r wr):∃s1 r1 w1,Good X nt ⟨Z.t,s1⟩ a w/\E.Run PC s1 b s' r1 w1:=by
 obtain⟨hs,hd,J,N,hst⟩:=hg
 obtain⟨s1,N1,r1,w1,h1,h2⟩:=unfL_run (t:=Z.t) hst h
 exact⟨s1,r1,w1,⟨hs,hd,J,N1,h1⟩,h2⟩
theorem undE_good {E:Eff α} {b:α} (hg:Good X nt Z a w) (h:(undE p E).Run PC Z.s b s' r wr):∃s1 r1 w1,Good X nt ⟨Z.t,s1⟩ a w/\E.Run PC s1 b s' r1 w1:=by
 unfold undE at h
 split at h
 ·obtain⟨r',rfl,h⟩:=h
  simp only at h
  split at h
  ·rename_i ver k l he
   obtain⟨w',rfl,h⟩:=h
   obtain⟨hs,hd,J,N,hst⟩:=hg
   obtain⟨N',st,_⟩:=undeep_spec (t:=Z.t) hst he
   exact⟨_,_,_,⟨hs,hd,J,N',st⟩,h⟩
  ·exact⟨_,_,_,hg,h⟩
 ·exact⟨_,_,_,hg,h⟩
theorem All3.pt {as:List Leaf}:∀{us:List Value},as.length=us.length->(∀(m:Nat) lf u,as[m]?=some lf->us[m]?=some u->DLeaf w lf u [])->All3 (DLeaf w) as us []:=by
 induction as with
 | nil=>intro us hl _;cases us with
  | nil=>rfl
  | cons=>simp at hl
 | cons a as ih=>
  intro us hl h
  cases us with
  | nil=>simp at hl
  | cons u us=>exact⟨[],[],rfl,h 0 a u rfl rfl,ih (by simpa using hl) fun m lf u h1 h2=>h (m+1) lf u (by simpa using h1) (by simpa using h2)⟩
theorem deep_own (hst:St X Z w tm J N) {id:Nat} {l:List (ty k)} (hid:Z.s id=⟨ver,some (.rowd k l)⟩) (hv:RefC w J Z.s id ver off n true u) :
  n=l.length/\l.length<=9223372036854775807/\∃xs L,OwnsRow w (tid k) (size k) u l.length xs/\All3 (DLeaf w) (l.flatMap leaves) xs L/\L.Nodup/\(∀x∈L,x∈N id)/\(∀g,u.ownBlock=some g->g∈N id/\g∉L)/\
   ∃pa c,u= .slice pa l.length c/\(l.length≠0->∃b off,pa=some ⟨b,off,none⟩/\∀(j:Nat) q,xs[j]?=some q->w.cell? ⟨b,off+j,none⟩ = some q):=by
 have hb0:(Z.s id).blk=some (.rowd k l):=by rw[hid]
 obtain⟨_,_,h3⟩:=hv
 obtain⟨e1,e2⟩:=h3 _ _ _ hid .d
 have hblk:=hst.blk id _ hb0
 rcases e2 with⟨e2,e3⟩ |⟨b,c,o2,e2,e3,e4,e5,e6⟩
 ·rcases hblk with⟨_,e,_⟩ |⟨b,cap,cur,L,q,_⟩
  ·subst e
   have hn:n=0:=by simp at e1;omega
   subst hn
   subst e3
   exact⟨rfl,by simp,[],[],⟨by simp,.inl ⟨rfl,rfl⟩⟩,rfl,List.nodup_nil,(fun x hx=>by cases hx),(fun g hg=>by simp[Value.ownBlock]at hg),none,0,rfl,fun h=>absurd rfl h⟩
  ·rw[e2]at q;cases q
 ·obtain⟨f1,f2,f3⟩:=e6 rfl
  rcases hblk with⟨q,_⟩ |⟨b',cap,cur,L,q1,q2,q3⟩
  ·rw[e2]at q;cases q
  ·rw[e2]at q1;cases q1
   have ho2:o2=0:=by have h9:=e5 (.inr rfl);rw[f1,Nat.zero_mul]at h9;exact h9
   subst ho2
   have hcap:c=cap:=by
    obtain⟨fz,hh,_⟩:=q3.2.1
    have h7:=f3 cur _ fz hh
    have h8:=q3.2.2.2.2.1
    rw[h7]at h8
    exact Nat.eq_of_mul_eq_mul_right (size_pos _) h8
   have hnd:(b::L).Nodup:=by rw[<-q2];exact hst.nodup id _ hb0
   obtain⟨a1,a2,a3,a4,a5,a6⟩:=q3
   have hle:l.length*size k<=cur.size:=by rw[a5];exact Nat.mul_le_mul_right _ a3
   subst f2
   refine⟨rfl,a1,cur.toList.take (l.length*size k),L,⟨by simp;omega,.inr ⟨b,c,cur,e4,Nat.zero_le _,a2,e3,by rw[hcap];exact a4,by rw[hcap];exact a5,rfl⟩⟩,a6,(List.nodup_cons.1 hnd).2,(fun x hx=>by rw[q2];simp[hx]),(fun g hg=> ?_),some ⟨b,0,none⟩,c,e4,fun _=>⟨b,0,rfl,fun j q hq=> ?_⟩⟩
   ·rw[e4]at hg
    simp only[Value.ownBlock,Option.some.injEq]at hg
    subst hg
    exact⟨by rw[q2];simp,(List.nodup_cons.1 hnd).1⟩
   ·rw[Nat.zero_add,a2.cell]
    rw[List.getElem?_take]at hq
    split at hq
    ·simpa using hq
    ·cases hq
theorem All3.one {as:List Leaf}:∀{us:List Value} {L:List Nat},All3 (DLeaf w) as us L->∀u∈us,u.oneCell'=true:=by
 induction as with
 | nil=>intro us L h u hu;cases us with
  | nil=>cases hu
  | cons=>exact h.elim
 | cons a as ih=>
  intro us L h u hu
  cases us with
  | nil=>cases hu
  | cons x us=>
   obtain⟨L1,L2,_,h1,h2⟩:=h
   rcases List.mem_cons.1 hu with rfl|hu
   ·exact h1.one
   ·exact ih h2 u hu
end
open Go.RowKit
def dsite (o:Oper):Nat:=site o+1000000000
def eMakeSliceX (o:Oper) (t:TypeId) (l c:PV):Eff PV:=match slK t with
 | none=> .fail
 | some k=>match flat k with
  | true=>eMakeSlice o t l c
  | false=>match l,c with
   | .v (.int _ l),.v (.int _ c)=>gdE (0<=l/\l<=c) (gdE (roomB k c.toNat) (newBlk (dsite o) (.rowd k (List.replicate l.toNat (zK k))) fun ver=> .ret (.ref (dsite o) ver 0 l.toNat true)))
   | _,_=> .fail
def eBuild1 (o:Oper) (k:K) (v:PV) (els:Eff PV):Eff PV:=rdL (refsL (cellsP v)) zS fun f=>match closeX f k (cellsP v)with
 | some (y,A)=>(match A.any (Nat.beq (dsite o))with
  | true=> .fail
  | false=>if(cellsP v).length=size k/\size k<=16777216 then dropL A (newBlk (dsite o) (.rowd k [y]) fun ver=> .ret (.ref (dsite o) ver 0 1 true))else .fail)
 | none=>els
def eBuildSliceX (o:Oper) (t:TypeId) (n:Nat) (parts:List (Nat×PV)):Eff PV:=match slK t with
 | none=> .fail
 | some k=>match flat k with
  | true=>eBuildSlice o t n parts
  | false=>match n,parts with
   | 1,[(0,v)]=>eBuild1 o k v (eBuildSlice o t n parts)
   | n,parts=>eBuildSlice o t n parts
section
variable {P:Program} {PC:Con} {X:Ctx} {nt:Nat} {Q:Exit->Act->World->Prop} {Z:Env} {a:Act} {w:World} {o:Oper} {v:PV} {t:Nat->PV} {s s':Sto} {r wr:List Nat}
variable {J:Nat->Option (Nat×Nat)} {N:Nat->List Nat} {tm:Array Value} {S:Nat->Prop} {σ:Sto}
theorem dsite_ge (o:Oper):99<=dsite o:=by unfold dsite;omega
theorem eMakeSliceX_sound (hF:Facts P) {t:TypeId} (ho:o.op= .makeSlice t x y) (hx:opndB nt x=true) (hy:opndB nt y=true) (hg:Good X nt Z a w) (h:(eMakeSliceX o t (opd Z.t x) (opd Z.t y)).Run PC Z.s v s' r wr) :
  o.wp P a w (fun a' w'=>Good X nt ⟨putE o.dst v Z.t,s'⟩ a' w') Q:=by
 obtain⟨hs,hd,J,N,hst⟩:=id hg
 have hv:=hst.opd hs hx
 have hvy:=hst.opd hs hy
 unfold eMakeSliceX at h
 split at h
 case h_1=>exact h.elim
 rename_i k ht
 split at h
 case h_1=>exact eMakeSlice_sound hF ho hx hy hg h
 split at h
 case h_2=>exact h.elim
 rename_i kl l kc c he hey
 rw[he]at hv
 rw[hey]at hvy
 obtain⟨hlc,h⟩:(0<=l/\l<=c)/\_:=h
 obtain⟨⟨g1,g2⟩,h⟩:=h
 obtain⟨r',wr',h⟩:=newBlk_run h
 obtain⟨rfl,rfl,-,-⟩:v=_/\s'=_/\r'=[]/\wr'=[]:=h
 obtain⟨i,z,q1,q2,q3,q4,q5,q6⟩:=hF.el k
 have hrun:=run_make (P:=P) w t (tid k) i z (hF.sl t k ht) q1 q2 kl kc l c hlc.1 hlc.2 (by
  rw[q4]
  have:((c.toNat*byt k:Nat):Int)<=140737488355328:=by omega
  rw[Int.natCast_mul]at this
  have h2:((c.toNat:Nat):Int)=c:=by omega
  rw[h2,Int.mul_comm]at this
  omega) (by omega)
 rw[q3]at hrun
 have hll:(List.replicate l.toNat (zK k)).length=l.toNat:=List.length_replicate ..
 have hsz:(madeCells z.cells (c.toNat*size k)).size=c.toNat*size k:=by rw[size_madeCells]
 have hle:l.toNat*size k<=c.toNat*size k:=Nat.mul_le_mul_right _ (by omega)
 have hown:OwnsRow (w.alloc (.cells (madeCells z.cells (c.toNat*size k)) (tid k))) (tid k) (size k) (.slice (some ⟨w.heap.size,0,none⟩) l.toNat c.toNat) (List.replicate l.toNat (zK k)).length ((madeCells z.cells (c.toNat*size k)).toList.take (l.toNat*size k)):=by
  rw[hll]
  exact⟨by rw[List.length_take,Array.length_toList,hsz];exact Nat.min_eq_left hle,.inr ⟨w.heap.size,c.toNat,_,rfl,Nat.zero_le _,RowAt.of (heap_alloc_new w _),by omega,by unfold maxLen;omega,hsz,rfl⟩⟩
 have hd0:All3 (DLeaf (w.alloc (.cells (madeCells z.cells (c.toNat*size k)) (tid k)))) ((List.replicate l.toNat (zK k)).flatMap leaves) ((madeCells z.cells (c.toNat*size k)).toList.take (l.toNat*size k)) []:=by
  refine All3.pt (by rw[flat_len,hll,List.length_take,Array.length_toList,hsz];exact(Nat.min_eq_left hle).symm) fun m lf u hm hu=> ?_
  have hml:m<l.toNat*size k:=by have:=(qS1.1 hm).1;rwa[flat_len,hll]at this
  have hp:=size_pos k
  have hi:m / size k<l.toNat:=(Nat.div_lt_iff_lt_mul hp).2 hml
  have hx:(List.replicate l.toNat (zK k))[m / size k]?=some (zK k):=by rw[List.getElem?_replicate,if_pos hi]
  have hm2:=flat_get hx (Nat.mod_lt m hp)
  rw[Nat.div_add_mod',hm]at hm2
  obtain⟨u',hu',hl⟩:=q6.2 (m % size k) lf hm2.symm
  rw[List.getElem?_take,if_pos hml]at hu
  have hu2:(madeCells z.cells (c.toNat*size k))[m]?=some u:=by simpa using hu
  have hzs:z.cells.size=size k:=by rw[q6.1,leaves_len]
  rw[madeCells_get (by omega) (by rw[hzs];exact hp),hzs]at hu2
  rw[hu']at hu2;cases hu2
  cases lf with
  | sc q=>exact⟨hl,rfl⟩
  | nest k' l'=>obtain⟨rfl,rfl⟩:=hl;exact DOwn_iff.2 (.inl ⟨rfl,rfl,rfl⟩)
 obtain⟨J',N',st1,v1⟩:=take_step hst (dsite o) ((Z.s (dsite o)).ver+1) (dsite_ge o) (Nat.lt_succ_self _) (A:=[]) (by simp) (by simp) (by simp) (by rw[hll];exact Nat.le_trans (by omega) g1) hown hd0 List.nodup_nil (World.grownBy_alloc w _ none) (by simp) (.inr (by simp[Value.ownBlock])) (by simp) (by simp)
 rw[hll]at v1
 refine sound_st hs hd ?_ st1 v1
 unfold execOp
 simp only[ho,hv.1,hvy.1,Sem.run_bind,Sem.run_pure,Result.andThen_ok,hrun]
theorem dLeaves_stor {f:Sto}:∀{cs qs:List PV} {A B:List Nat} {ls:List LeafI},closeL f cs=some (qs,A,B)->dLeaves qs=some ls->cs.all storable=true
 | [],_,_,_,_,_,_=>rfl
 | p::ps,qs,A,B,ls,h,hl=>by
  unfold closeL at h
  split at h
  ·rename_i q a b qs' c d e1 e2
   cases h
   unfold dLeaves at hl
   split at hl
   ·rename_i x l h1 h2
    rw[List.all_cons,Bool.and_eq_true]
    refine⟨?_,dLeaves_stor e2 h2⟩
    cases p<;>try rfl
    case row own k l=>
     cases own with
     | false=>rfl
     | true=>simp[closeS]at e1
    case agg=>simp[closeS]at e1
    case tup=>simp[closeS]at e1
    case obj=>simp[closeS]at e1
    case un=>simp[closeS]at e1;rw[<-e1.1]at h1;simp[dLeaf]at h1
    case dead=>simp[closeS]at e1;rw[<-e1.1]at h1;simp[dLeaf]at h1
    case drow=>simp[closeS]at e1
    case gb=>simp[closeS]at e1
   ·cases hl
  ·cases h
theorem closeX_open {cs:List PV} {y:ty k} {A:List Nat} (h:closeX f k cs=some (y,A)):∃qs ls,closeL f cs=some (qs,A,[])/\nodupB A=true/\(∀a∈A,99<=a)/\dLeaves qs=some ls/\ofLeaves k ls=some y:=by
 unfold closeX at h
 split at h
 case h_2=>cases h
 rename_i qs A' hcl
 split at h
 case h_2=>cases h
 rename_i ls hnn hls
 split at h
 case h_2=>cases h
 rename_i y' hy
 cases h
 rw[Bool.and_eq_true]at hnn
 exact⟨qs,ls,hcl,hnn.1,fun a ha=>Nat.le_of_ble_eq_true (List.all_eq_true.1 hnn.2 a ha),hls,hy⟩
theorem closeL_row {s:Sto}:∀{ps qs:List PV} {A B:List Nat},closeL s ps=some (qs,A,B)->∀a∈A,∃blk,(s a).blk=some blk/\∀cs,blk≠ .box cs:=fun{ps qs A B} h a ha=>by
 obtain⟨blk,hb⟩:=(closeL_live h).1 a ha
 exact⟨blk,hb,fun cs e=>(closeL_nb h).1 a ha cs (by rw[hb,e])⟩
theorem eBuildSliceX_sound (hF:Facts P) {t:TypeId} {parts:Array (Nat×Operand)} (ho:o.op= .buildSlice t n parts) (hx:(parts.toList.map (·.2)).all (opndB nt)=true) (hg:Good X nt Z a w) (h:(eBuildSliceX o t n (parts.toList.map fun x=>(x.1,opd Z.t x.2))).Run PC Z.s v s' r wr) :
  o.wp P a w (fun a' w'=>Good X nt ⟨putE o.dst v Z.t,s'⟩ a' w') Q:=by
 obtain⟨hs,hd,J,N,hst⟩:=id hg
 unfold eBuildSliceX at h
 split at h
 case h_1=>exact h.elim
 rename_i k hk
 split at h
 case h_1=>exact eBuildSlice_sound hF ho hx hg h
 split at h
 case h_2=>exact eBuildSlice_sound hF ho hx hg h
 rename_i v0 hpv
 obtain⟨x,rfl,hvx⟩:∃x,parts= #[(0,x)]/\opd Z.t x=v0:=by
  obtain⟨l⟩:=parts
  match l,hpv with
  | [(j,x)],hpv=>
   simp only[List.map_cons,List.map_nil,List.cons.injEq,Prod.mk.injEq,and_true]at hpv
   obtain⟨rfl,h2⟩:=hpv
   exact⟨x,rfl,h2⟩
 unfold eBuild1 at h
 obtain⟨f,r',hf,_,h⟩:=rdL_run h
 rw[closeX_congr hf]at h
 split at h
 case h_2=>exact eBuildSlice_sound hF ho hx hg h
 rename_i y A hc
 split at h
 case h_1=>exact h.elim
 rename_i hA0
 split at h
 case isFalse=>exact h.elim
 rename_i hlen
 obtain⟨r1,w1,h⟩:=dropL_run h
 obtain⟨r2,w2,h⟩:=newBlk_run h
 obtain⟨rfl,rfl,-,-⟩:v=_/\s'=_/\r2=[]/\w2=[]:=h
 obtain⟨qs,ls,c1,c2,c3,c4,c5⟩:=closeX_open hc
 have hv:ValC (Fz X w N Z.s) w J Z.s v0 (a.eval x):=by rw[<-hvx];exact hst.opd hs (by simpa using hx)
 obtain⟨us,hus,hall,hone⟩:=cellsP_val hv (dLeaves_stor c1 c4)
 have hul:=hall.len
 obtain⟨hlive,hown⟩:=closeL_spec (S':=Fz X w N Z.s) (J':=J) (σ':=Z.s) hst (fun _ h=>h) hall c1 (fun id hid=>by cases hid)
 have hdl:=dLeaves_own c4 (ofLeaves_spec c5) hown
 have hAn:=nodupB_spec c2
 obtain⟨i,z,q1,q2,q3,q4,q5,q6⟩:=hF.el k
 have husl:us.length=size k:=by rw[<-hul];exact hlen.1
 have hsid:dsite o∉A:=fun hm=>by
  have:=List.any_eq_false.1 hA0 _ hm
  rw[Nat.beq_refl]at this
  exact this rfl
 have hmem:∀z∈(A.map N).flatten,∃a∈A,z∈N a:=fun z hz=>by
  obtain⟨q,hq,hz⟩:=List.mem_flatten.1 hz
  obtain⟨a,ha,rfl⟩:=List.mem_map.1 hq
  exact⟨a,ha,hz⟩
 have hlt:∀z∈(A.map N).flatten,z<w.heap.size:=fun z hz=>by
  obtain⟨a,ha,hza⟩:=hmem z hz
  obtain⟨blk,hb⟩:=hlive a ha
  exact hst.lt a blk hb z hza
 have hheap:=heap_alloc_new w (.cells us.toArray (tid k))
 have hd1:All3 (DLeaf (w.alloc (.cells us.toArray (tid k)))) ([y].flatMap leaves) us (A.map N).flatten:=by
  rw[List.flatMap_cons,List.flatMap_nil,List.append_nil]
  exact All3.mono (fun lf u M hM h=>DLeaf.keep h fun z hz=>Below.heap_alloc w _ z (hlt z (hM z hz))) hdl
 have hown1:OwnsRow (w.alloc (.cells us.toArray (tid k))) (tid k) (size k) (.slice (some ⟨w.heap.size,0,none⟩) 1 1) [y].length us:=by
  refine⟨by simp[husl],.inr ⟨w.heap.size,1,us.toArray,rfl,Nat.zero_le _,RowAt.of hheap,by simp,by unfold maxLen;omega,by simp[husl],by rw[List.length_singleton,Nat.one_mul,<-husl];simp⟩⟩
 obtain⟨J',N',st1,v1⟩:=take_step hst (dsite o) ((dropS A Z.s (dsite o)).ver+1) (dsite_ge o) (by rw[dropS_at,if_neg hsid];exact Nat.lt_succ_self _) hsid (closeL_row c1) c3 (by simp) hown1 hd1 (hst.nodups hAn hlive) (World.grownBy_alloc w _ none) (by simp) (.inr (by simp[Value.ownBlock])) (fun z hz=>by
   obtain⟨a,ha,hza⟩:=hmem z hz
   obtain⟨blk,hb⟩:=hlive a ha
   exact⟨a,blk,.inr ha,hb,hza⟩) (fun g hg hm=>by
   simp only[Value.ownBlock,Option.some.injEq]at hg
   subst hg
   exact absurd (hlt _ hm) (Nat.lt_irrefl _))
 refine sound_st hs hd (u:= .slice (some ⟨w.heap.size,0,none⟩) 1 1) ?_ st1 v1
 have hsz:=size_pos k
 have hfill:Instr.fill (fun i=>some (i*size k,size k)) (madeCells z.cells (1*size k)) [(0,a.eval x)]=some us.toArray:=by
  have hm:(madeCells z.cells (1*size k)).size=size k:=by rw[size_madeCells,Nat.one_mul]
  rw[Instr.fill]
  simp only[hus,List.size_toArray]
  have hm':(madeCells z.cells (size k)).size=size k:=by rw[size_madeCells]
  rw[if_neg (by simp[husl,hm'])]
  have:=fold_splice (0*size k) us (madeCells z.cells (1*size k)) (by rw[Nat.zero_mul,Nat.zero_add,husl,hm];exact Nat.le_refl _)
  rw[this]
  have e:splice (madeCells z.cells (1*size k)).toList (0*size k) us=us:=by
   unfold splice
   rw[Nat.zero_mul,List.take_zero,List.nil_append,Nat.zero_add,husl,List.drop_eq_nil_of_le (by rw[Array.length_toList,hm];exact Nat.le_refl _),List.append_nil]
  rw[e]
  rfl
 have hrun:=run_buildSlice (P:=P) w t (tid k) 1 #[(0,a.eval x)] us.toArray i z (hF.sl t k hk) q1 q2 (by rw[q3];omega) (by rw[q3];omega) (by rw[q3];exact hfill)
 unfold execOp
 simp only[ho,Sem.run_bind,List.map_toArray,List.map_cons,List.map_nil,hrun,Result.andThen_ok,Sem.run_pure]
end
open Go.RowKit
def eAppendD (o:Oper) (k:K) (d:PV) (id2:Nat) (l2:List (ty k)):Eff PV:=match d with
 | .nil=>(match Nat.beq id2 (dsite o)with
  | true=> .fail
  | false=>gdE (roomB k l2.length) (dropL [id2] (newBlk (dsite o) (.rowd k l2) fun ver=> .ret (.ref (dsite o) ver 0 l2.length true))))
 | .ref id ver _ _ full=>live id ver fun
  | .rowd _ l1=>(match castL k l1 with
   | some l=>(match full,Nat.ble 99 id,Nat.beq id2 id with
    | true,true,false=>gdE (roomB k (l++l2).length) (dropL [id2] (.wr id ⟨ver+1,some (.rowd k (l++l2))⟩ (.ret (.ref id (ver+1) 0 (l++l2).length true))))
    | _,_,_=> .fail)
   | none=> .fail)
  | .box _=> .fail
  | .rowb _ _=> .fail
  | .objb _=> .fail
  | .iterb _ _ _ _ _=> .fail
  | .rowx _ _ _ _=> .fail
 | _=> .fail
def deepD (d:PV) (next:Bool->Eff PV):Eff PV:=match d with
 | .nil=>next true
 | .ref id _ _ _ _=> .rd id fun e=>match e with
  | ⟨_,some (.rowd _ _)⟩=>next true
  | _=>next false
 | _=>next false
def eAppendX (o:Oper) (t:TypeId) (d s:PV):Eff PV:=match slK t with
 | none=> .fail
 | some k=>match flat k with
  | true=>eAppend o t d s
  | false=>match s with
   | .ref id2 ver2 _ _ full2=> .rd id2 fun e2=>match e2 with
    | ⟨v2,some (.rowd _ l2)⟩=>(match full2,Nat.beq v2 ver2,Nat.ble 99 id2,castL k l2 with
     | true,true,true,some l2=>deepD d fun b=>match b with
      | true=>eAppendD o k d id2 l2
      | false=>undE s (undE d (eAppend o t d s))
     | _,_,_,_=>undE s (undE d (eAppend o t d s)))
    | _=>undE d (eAppend o t d s)
   | _=>undE d (eAppend o t d s)
section
variable {P:Program} {PC:Con} {X:Ctx} {nt:Nat} {Q:Exit->Act->World->Prop} {Z:Env} {a:Act} {w:World} {o:Oper} {v:PV} {t:Nat->PV} {s s':Sto} {r wr:List Nat}
variable {J:Nat->Option (Nat×Nat)} {N:Nat->List Nat} {tm:Array Value} {S:Nat->Prop} {σ:Sto}
theorem eAppendD_sound (hF:Facts P) {t:TypeId} (ht:slK t=some k) (ho:o.op= .call {callee:= .builtin .append,args:= #[x,y],argTypes:= #[t,t]}) (hx:opndB nt x=true) (hy:opndB nt y=true) (hg:Good X nt Z a w) {id2 ver2 off2 n2:Nat} {l2:List (ty k)} (hye:opd Z.t y= .ref id2 ver2 off2 n2 true) (h2:Z.s id2=⟨ver2,some (.rowd k l2)⟩) (h299:99<=id2) (h:(eAppendD o k (opd Z.t x) id2 l2).Run PC Z.s v s' r wr) :
  o.wp P a w (fun a' w'=>Good X nt ⟨putE o.dst v Z.t,s'⟩ a' w') Q:=by
 obtain⟨hs,hd,J,N,hst⟩:=id hg
 have hv:=hst.opd hs hx
 have hvy:=hst.opd hs hy
 rw[hye]at hvy
 have hb2:(Z.s id2).blk=some (.rowd k l2):=by rw[h2]
 obtain⟨hn2,hl263,xs2,L2,own2,d2,nd2,in2,ob2,pa,c,he,hnews⟩:=deep_own hst h2 hvy
 have fin:∀(vv u:Value) (w':World),a.eval x=vv->(Builtin.append_ #[t,t] o.type #[vv,a.eval y]).run P w= .ok u w'->(execOp a.eval o).run P w= .ok (.value u) w':=by
  intro vv u w' e hrun
  unfold execOp
  simp only[ho,resolve,invoke,builtin,Sem.run_bind,Sem.run_pure,Result.andThen_ok,List.map_toArray,List.map_cons,List.map_nil,e,hrun]
 have hr2:∀a∈[id2],∃blk,(Z.s a).blk=some blk/\∀cs,blk≠ .box cs:=fun a ha=>by
  rw[List.mem_singleton.1 ha];exact⟨_,hb2,fun cs e=>by cases e⟩
 have h99A:∀a∈[id2],99<=a:=fun a ha=>by rw[List.mem_singleton.1 ha];exact h299
 have lt2:∀z∈L2,z<w.heap.size:=fun z hz=>hst.lt id2 _ hb2 z (in2 z hz)
 unfold eAppendD at h
 split at h
 case h_3=>exact h.elim
 case h_1=>
  rename_i hxe
  rw[hxe]at hv
  split at h
  case h_1=>exact h.elim
  rename_i hne
  have hne:dsite o∉[id2]:=fun hm=>by
   rw[List.mem_singleton.1 hm,Nat.beq_refl]at hne;cases hne
  obtain⟨⟨g1,g2⟩,h⟩:=h
  obtain⟨r1,w1,h⟩:=dropL_run h
  obtain⟨r',wr',h⟩:=newBlk_run h
  obtain⟨rfl,rfl,-,-⟩:v=_/\s'=_/\r'=[]/\wr'=[]:=h
  obtain⟨v',w',hrun,hown,hgr,hvb⟩:=append_conc (P:=P) (w:=w) (ty':=o.type) hF ht (v:= .slice none 0 0) (n:=0) (xs:=[]) ⟨by simp,.inl ⟨rfl,rfl⟩⟩ (m:=l2.length) (c:=c) (news:=xs2) own2.1 hnews d2.one (by omega) (by rw[Nat.zero_add];exact g2)
  rw[Nat.zero_add,List.nil_append]at hown
  have hvo:(Value.slice none 0 0).ownBlock=none:=rfl
  rw[hvo]at hgr hvb
  have hd1:All3 (DLeaf w') (l2.flatMap leaves) xs2 L2:=All3.mono (fun lf u M hM h=>DLeaf.keep h fun z hz=>hgr.block z (lt2 z (hM z hz)) (by simp)) d2
  obtain⟨J',N',q1,q2⟩:=take_step hst (dsite o) ((dropS [id2] Z.s (dsite o)).ver+1) (dsite_ge o) (by rw[dropS_at,if_neg hne];exact Nat.lt_succ_self _) hne hr2 h99A hl263 hown hd1 nd2 hgr (by simp) hvb (fun z hz=>⟨id2,_,.inr (by simp),hb2,in2 z hz⟩) (fun g hg hm=>by
   rcases hvb with e|e
   ·rw[hg]at e;cases e
   ·rw[hg]at e;cases e;exact Nat.lt_irrefl _ (lt2 _ hm))
  exact sound_st hs hd (fin _ v' w' hv (by rw[he];exact hrun)) q1 q2
 case h_2=>
  rename_i id ver off n full hxe
  rw[hxe]at hv
  obtain⟨blk,r',hb,-,h⟩:=live_run h
  cases blk with
  | box cs=>exact h.elim
  | objb o=>exact h.elim
  | iterb=>exact h.elim
  | rowb=>exact h.elim
  | rowx=>exact h.elim
  | rowd k' l'=>
   simp only at h
   split at h
   case h_2=>exact h.elim
   rename_i l hcl
   obtain⟨rfl,rfl⟩:=castL_some hcl
   split at h
   case h_2=>exact h.elim
   have h99:Nat.ble 99 id=true:=by assumption
   have hne:Nat.beq id2 id=false:=by assumption
   have h99:=Nat.le_of_ble_eq_true h99
   have hne:id≠id2:=fun e=>by rw[e,Nat.beq_refl]at hne;cases hne
   have hnm:id∉[id2]:=by simpa using hne
   obtain⟨⟨g1,g2⟩,h⟩:=h
   obtain⟨r1,w1,h⟩:=dropL_run h
   obtain⟨w3,-,h⟩:=h
   rw[List.length_append]at g1 g2
   obtain⟨rfl,rfl,-,-⟩:v=_/\s'=_/\r1=[]/\w3=[]:=h
   have hb1:(Z.s id).blk=some (.rowd k' l):=by rw[hb]
   obtain⟨hn1,hl163,xs1,L1,own1,d1,nd1,in1,ob1,pa1,c1,he1,_⟩:=deep_own hst hb hv
   have lt1:∀z∈L1,z<w.heap.size:=fun z hz=>hst.lt id _ hb1 z (in1 z hz)
   obtain⟨v',w',hrun,hown,hgr,hvb⟩:=append_conc (P:=P) (w:=w) (ty':=o.type) hF ht own1 (m:=l2.length) (c:=c) (news:=xs2) own2.1 hnews d2.one g1 g2
   have hoL:∀g,(a.eval x).ownBlock=some g->g∉L1++L2:=fun g hg hm=>by
    obtain⟨o1,o2⟩:=ob1 g hg
    rcases List.mem_append.1 hm with hm|hm
    ·exact o2 hm
    ·exact hst.disj id id2 _ _ hb1 hb2 hne g o1 (in2 g hm)
   have hkeep:∀z,z∈L1++L2->w'.heap[z]?=w.heap[z]?:=fun z hz=>hgr.block z (by
    rcases List.mem_append.1 hz with hz|hz
    ·exact lt1 z hz
    ·exact lt2 z hz) fun e=>hoL z e.symm hz
   have hdd:All3 (DLeaf w') ((l++l2).flatMap leaves) (xs1++xs2) (L1++L2):=by
    rw[List.flatMap_append]
    exact All3.mono (fun lf u M hM h=>DLeaf.keep h fun z hz=>hkeep z (hM z hz)) (d1.app d2)
   obtain⟨J',N',q1,q2⟩:=take_step hst id (ver+1) h99 (by rw[hb];exact Nat.lt_succ_self _) hnm hr2 h99A (l:=l++l2) (by rw[List.length_append];exact g1) (by rw[List.length_append];exact hown) hdd
    (List.nodup_append.2 ⟨nd1,nd2,fun z hz z' hz' e=>hst.disj id id2 _ _ hb1 hb2 hne z (in1 z hz) (in2 z (e▸hz'))⟩) hgr (fun g hg=>⟨id,_,.inl rfl,hb1,(ob1 g hg).1⟩) hvb
    (fun z hz=>by
     rcases List.mem_append.1 hz with hz|hz
     ·exact⟨id,_,.inl rfl,hb1,in1 z hz⟩
     ·exact⟨id2,_,.inr (by simp),hb2,in2 z hz⟩)
    (fun g hg hm=>by
     rcases hvb with e|e
     ·rw[hg]at e;exact hoL g e.symm hm
     ·rw[hg]at e;cases e
      rcases List.mem_append.1 hm with hm|hm
      ·exact Nat.lt_irrefl _ (lt1 _ hm)
      ·exact Nat.lt_irrefl _ (lt2 _ hm))
   exact sound_st hs hd (fin _ v' w' rfl (by rw[he];exact hrun)) q1 q2
theorem deepD_run {d:PV} {next:Bool->Eff PV} {b:PV} (h:(deepD d next).Run PC s b s' r wr):∃c r',(next c).Run PC s b s' r' wr:=by
 unfold deepD at h
 split at h
 ·exact⟨_,_,h⟩
 ·obtain⟨r',rfl,h⟩:=h
  simp only at h
  split at h<;>exact⟨_,_,h⟩
 ·exact⟨_,_,h⟩
theorem eAppendX_sound (hF:Facts P) {t:TypeId} (ho:o.op= .call {callee:= .builtin .append,args:= #[x,y],argTypes:= #[t,t]}) (hx:opndB nt x=true) (hy:opndB nt y=true) (hg:Good X nt Z a w) (h:(eAppendX o t (opd Z.t x) (opd Z.t y)).Run PC Z.s v s' r wr) :
  o.wp P a w (fun a' w'=>Good X nt ⟨putE o.dst v Z.t,s'⟩ a' w') Q:=by
 have u1:∀{s1:Sto} {r wr:List Nat},Good X nt ⟨Z.t,s1⟩ a w->(undE (opd Z.t x) (eAppend o t (opd Z.t x) (opd Z.t y))).Run PC s1 v s' r wr->o.wp P a w (fun a' w'=>Good X nt ⟨putE o.dst v Z.t,s'⟩ a' w') Q:=by
  intro s1 r wr hg h
  obtain⟨s2,r1,w1,hg2,h2⟩:=undE_good (Z:=⟨Z.t,s1⟩) hg h
  exact eAppend_sound (Z:=⟨Z.t,s2⟩) hF ho hx hy hg2 h2
 have u2:∀{r wr:List Nat},(undE (opd Z.t y) (undE (opd Z.t x) (eAppend o t (opd Z.t x) (opd Z.t y)))).Run PC Z.s v s' r wr->o.wp P a w (fun a' w'=>Good X nt ⟨putE o.dst v Z.t,s'⟩ a' w') Q:=by
  intro r wr h
  obtain⟨s2,r1,w1,hg2,h2⟩:=undE_good hg h
  exact u1 hg2 h2
 unfold eAppendX at h
 split at h
 case h_1=>exact h.elim
 rename_i k ht
 split at h
 case h_1=>exact eAppend_sound hF ho hx hy hg h
 split at h
 case h_2=>exact u1 (s1:=Z.s) hg h
 rename_i id2 ver2 off2 n2 full2 hye
 obtain⟨r',rfl,h⟩:=h
 simp only at h
 split at h
 case h_2=>exact u1 (s1:=Z.s) hg h
 rename_i v2 k2 l2' he2
 split at h
 case h_2=>exact u2 h
 rename_i l2 hcl
 have hv2:Nat.beq v2 ver2=true:=by assumption
 have h299:Nat.ble 99 id2=true:=by assumption
 obtain⟨rfl,rfl⟩:=castL_some hcl
 obtain rfl:=Nat.eq_of_beq_eq_true hv2
 obtain⟨b,r2,h⟩:=deepD_run h
 cases b with
 | true=>exact eAppendD_sound hF ht ho hx hy hg hye he2 (Nat.le_of_ble_eq_true h299) h
 | false=>exact u2 h
end
open Go.RowKit
def keyB:MK->Value->Bool
 | .s,.string _=>true
 | .i,.int .i64 _=>true
 | .b,.bool _=>true
 | _,_=>false
theorem keyB_spec {m:MK} {v:Value} (h:keyB m v=true):MapKept.IsKey m.td v:=by
 unfold keyB at h
 split at h
 ·trivial
 ·rfl
 ·trivial
 ·cases h
def mpPut (m:MK) (o:Obj) (kv vv:Value):Option Obj:=match o with
 | .map es cl=>match Instr.findNow m.td kv es.toList 0 with
  | some none=>some (.map (es.push {key:=kv,val:=vv,born:=cl}) (cl+1))
  | some (some (i,_))=>if Instr.sameBits 10000 (((es[i]?).map (·.key)).getD kv) kv=true then some (.map (es.modify i fun e=> {e with key:=kv,val:=vv}) cl)else none
  | none=>none
 | _=>none
def mpGet (m:MK) (o:Obj) (kv:Value):Option (Option Value):=match o with
 | .map es _=>match Instr.findNow m.td kv es.toList 0 with
  | some (some (_,x))=>some (some x)
  | some none=>some none
  | none=>none
 | _=>none
def mpB (m:MK) (o:Obj) (kv:Value):Option Bool:=match mpGet m o kv with
 | some none=>some false
 | some (some (.bool b))=>some b
 | _=>none
def mpI (m:MK) (o:Obj) (kv:Value):Option Int:=match mpGet m o kv with
 | some none=>some 0
 | some (some (.int .i64 n))=>if IntKind.i64.wrap n=n then some n else none
 | _=>none
def mpS (m:MK) (o:Obj) (kv:Value) (z:ByteArray):Option ByteArray:=match mpGet m o kv with
 | some none=>some z
 | some (some (.string x))=>if x.size<=9223372036854775807 then some x else none
 | _=>none
def emptyM:Obj:= .map #[] 0
def eMakeMap (o:Oper):Eff PV:=newBlk (site o) (.objb emptyM) fun ver=> .ret (.ptr (site o) ver 0 0)
def eInsert (t:TypeId) (m k v:PV):Eff PV:=match mapT t,m,k,v with
 | some (mk,_),.ptr id ver _ 0,.v kv,.v vv=>(match keyB mk kv with
  | true=>live id ver fun
   | .objb ob=> .opt (mpPut mk ob kv vv) fun ob'=> .wr id ⟨ver,some (.objb ob')⟩ (.ret .un)
   | _=> .fail
  | false=> .fail)
 | _,_,_,_=> .fail
def getM (mk:MK) (z:Value) (ob:Obj) (kv:Value):Eff PV:=match z with
 | .bool false=> .opt (mpB mk ob kv) fun b=> .ret (.v (.bool b))
 | .int .i64 0=> .opt (mpI mk ob kv) fun n=> .ret (.v (.int .i64 n))
 | .string z=> .opt (mpS mk ob kv z) fun x=> .ret (.v (.string x))
 | _=> .fail
def eLookup (t:TypeId) (m k:PV):Eff PV:=match mapT t,m,k with
 | some (mk,z),.ptr id ver _ 0,.v kv=>(match keyB mk kv with
  | true=>live id ver fun
   | .objb ob=>getM mk z ob kv
   | _=> .fail
  | false=> .fail)
 | _,_,_=> .fail
section
variable {P:Program} {PC:Con} {X:Ctx} {nt:Nat} {Q:Exit->Act->World->Prop} {Z:Env} {a:Act} {w:World} {o:Oper} {v:PV} {s':Sto} {r wr:List Nat}
theorem turn_obj {tm:Array Value} (h:St X Z w tm J N) {id b:Nat} {ob ob':Obj} (hid:Z.s id=⟨ver,some (.objb ob)⟩) (hβ:J id=some (b,0)) (hv:objV ob' b=objV ob b) (hw:w'= {w with heap:=w.heap.setIfInBounds b ob'}) :
  St X ⟨Z.t,upd Z.s id ⟨ver,some (.objb ob')⟩⟩ w' tm J N:=by
 have hblk0:(Z.s id).blk=some (.objb ob):=by rw[hid]
 obtain⟨b',q1,q2,q3⟩:=h.blk id _ hblk0
 rw[hβ]at q1;cases q1
 have hlt:b<w.heap.size:=(Array.getElem?_eq_some_iff.1 q3).1
 have hsz:w'.heap.size=w.heap.size:=by rw[hw];simp
 have hnew:w'.heap[b]?=some ob':=by rw[hw];simp[hlt]
 have hold:∀x,x≠b->w'.heap[x]?=w.heap[x]?:=fun x hx=>by rw[hw];show(w.heap.setIfInBounds b ob')[x]?=_;rw[Array.getElem?_setIfInBounds_ne (Ne.symm hx)]
 have hsame:∀x,x<w.heap.size->x∉N id->w'.heap[x]?=w.heap[x]?:=fun x _ hx=>hold x (fun e=>hx (by rw[q2,e];simp))
 refine(St.step (Z:=Z) h (upd Z.s id ⟨ver,some (.objb ob')⟩) (· = id) (by rw[hsz];exact Nat.le_refl _) (fun x hx hc=>hsame x hx (hc id _ rfl hblk0)) (fun i hi=>⟨upd_ne _ _ hi,rfl,rfl⟩) ?_ ?_ ?_ ?_ ?_ ?_ ?_ ?_ ?_ ?_).2
 ·rintro i rfl v o n f u ⟨k1,k2,k3⟩
  refine⟨by rw[upd_same];rw[hid]at k1;exact k1,k2,fun blk k l e hr=> ?_⟩
  rw[upd_same]at e
  cases e
  cases hr
 ·rintro i rfl v i' j' u ⟨k1,k2,k3⟩
  refine⟨by rw[upd_same];rw[hid]at k1;exact k1,k2,fun blk e=> ?_⟩
  rw[upd_same]at e
  cases e
  obtain⟨b2,off,e1,e2⟩:=k3 _ hid
  rw[hβ]at e1;cases e1
  exact⟨b,0,hβ,fun hj=>⟨rfl,by rw[(e2 hj).2,hv]⟩⟩
 ·rintro i blk rfl hbk T
  rw[upd_same]at hbk
  cases hbk
  exact⟨b,hβ,q2,hnew⟩
 ·rintro i blk rfl hbk x hx
  exact .inl ⟨i,_,rfl,hblk0,hx⟩
 ·rintro i blk rfl hbk
  exact h.nodup i _ hblk0
 ·rintro i i' b1 b2 rfl rfl _ _ hne
  exact absurd rfl hne
 ·rintro i p hp rfl
  obtain⟨e1,cs',e2,e3⟩:=h.ext i p hp
  rw[hblk0]at e2
  cases e2
 ·rintro q u n hq he
  obtain⟨_,blk,k,l,h2,h3,_⟩:=h.rxt q u n hq
  rw[he,hid]at h2
  cases h2
  cases h3
 ·refine Frm.turn h id _ hblk0 (by rw[hw]) (by rw[hw]) (by rw[hw]) (by rw[hsz];exact Nat.le_refl _) hsame fun i b2 off2 n hi hn hm=> ?_
  have hm':b2=b:=by rw[q2]at hm;simpa using hm
  subst hm'
  obtain⟨e1,cs',e2,e3⟩:=h.ext i _ hi
  by_cases hne:i=id
  ·subst hne;rw[hblk0]at e2;cases e2
  ·obtain⟨b3,off3,_,_,p1,p2,_⟩:=h.blk i _ e2
   rw[e1]at p1
   cases p1
   exact absurd hm (h.disj i id _ _ e2 hblk0 hne b2 (by rw[p2];simp))
 ·exact X.cl _ _ h.env fun x hx=>hold x (by
   rintro rfl
   have:=h.new id _ hblk0 x (by rw[q2];simp)
   rcases this with h1|h1
   ·have:=X.hG x h1;omega
   ·have:=X.hw;omega)
theorem eMakeMap_sound {t:TypeId} (ho:o.op= .makeMap t none) (hg:Good X nt Z a w) (h:(eMakeMap o).Run PC Z.s v s' r wr):o.wp P a w (fun a' w'=>Good X nt ⟨putE o.dst v Z.t,s'⟩ a' w') Q:=by
 obtain⟨hs,hd,J,N,hst⟩:=id hg
 obtain⟨r',wr',h⟩:=newBlk_run h
 obtain⟨rfl,rfl,-,-⟩:v=_/\s'=_/\r'=[]/\wr'=[]:=h
 have hheap:=heap_alloc_new w (Obj.map #[] 0)
 refine sound_st (u:= .map (some w.heap.size)) hs hd ?_ (new_blk (w':=w.alloc (.map #[] 0)) hst (site o) (site_ge o) (.objb (.map #[] 0)) (some (w.heap.size,0)) [w.heap.size] rfl rfl rfl (by simp) (fun b hb=>Below.heap_alloc w _ b hb) (by simp) (by simp) fun T=>⟨_,by rw[upd_same],rfl,hheap⟩).2 ?_
 ·unfold execOp
  simp only[ho]
  simp[Instr.makeMap,Option.map]
 ·refine⟨by show _<=(upd Z.s _ _ _).ver;rw[upd_same];exact Nat.le_refl _,.inr ⟨_,rfl⟩,fun blk e=> ?_⟩
  rw[upd_same]at e
  cases e
  exact⟨w.heap.size,0,by rw[upd_same],fun _=>⟨rfl,rfl⟩⟩
theorem eInsert_sound (hF:Facts P) {t:TypeId} {z:Operand} (ho:o.op= .insert t x y z∨o.op= .mapUpdate t x y z) (hx:opndB nt x=true) (hy:opndB nt y=true) (hz:opndB nt z=true) (hg:Good X nt Z a w) (h:(eInsert t (opd Z.t x) (opd Z.t y) (opd Z.t z)).Run PC Z.s v s' r wr):o.wp P a w (fun a' w'=>Good X nt ⟨putE o.dst v Z.t,s'⟩ a' w') Q:=by
 obtain⟨hs,hd,J,N,hst⟩:=id hg
 have hv:=hst.opd hs hx
 have hvy:=hst.opd hs hy
 have hvz:=hst.opd hs hz
 unfold eInsert at h
 split at h
 case h_2=>exact h.elim
 rename_i mk z0 id ver i0 kv vv e1 e2 e3 e4
 rw[e2]at hv;rw[e3]at hvy;rw[e4]at hvz
 split at h
 case h_2=>exact h.elim
 rename_i hk
 obtain⟨_,_,k3⟩:=hv
 obtain⟨blk,r',hb,er,h2⟩:=live_run h
 subst er
 clear h
 have h:=h2
 clear h2
 try simp only at h
 split at h
 case h_2=>exact h.elim
 rename_i ob
 obtain⟨ob',hput,w2,-,rfl,rfl,-,-⟩:=h
 obtain⟨b,off,hβ,q⟩:=k3 _ hb
 obtain⟨q0,q'⟩:=q rfl
 subst q0
 clear q
 obtain⟨b',f1,f2,f3⟩:=hst.blk id _ (by rw[hb])
 rw[hβ]at f1;cases f1
 obtain⟨kt,et,m1,m2,m3⟩:=(hF.mp t mk z0 e1).2
 have hc:(Instr.checkKey false 10000 kt kv).run P w= .ok () w:=MapKept.run_checkKey (k:=kv) m2 (keyB_spec hk) false 9999
 have q:a.eval x=objV ob b:=q'
 have ey:a.eval y=kv:=hvy.1
 have ez:a.eval z=vv:=hvz.1
 unfold mpPut at hput
 split at hput
 case h_2=>cases hput
 rename_i es cl
 split at hput
 ·rename_i hf
  cases hput
  refine sound_skip hs hd ?_ (turn_obj hst hb hβ (ob':= .map (es.push {key:=kv,val:=vv,born:=cl}) (cl+1)) rfl rfl)
  unfold execOp
  rcases ho with ho|ho<;>simp only[ho,q,ey,ez,objV] <;>
  simp[Instr.mapUpdate,run_underlying m1,MapKept.run_getObj_map f3,hc,MapKept.run_findKey m2 hf,MapKept.run_setObj_map _ f3,Result.andThen]
 ·rename_i i vv0 hf
  split at hput
  case isFalse=>cases hput
  rename_i hsb
  cases hput
  refine sound_skip hs hd ?_ (turn_obj hst hb hβ (ob':= .map (es.modify i fun e=> {e with key:=kv,val:=vv}) cl) rfl rfl)
  have hks:(Instr.keyThatStays (((es[i]?).map (·.key)).getD kv) kv).run P w= .ok kv w:=by
   simp[Instr.keyThatStays,hsb]
  unfold execOp
  rcases ho with ho|ho<;>simp only[ho,q,ey,ez,objV] <;>
  simp only[Instr.mapUpdate,Sem.run_bind,run_underlying m1,MapKept.run_getObj_map f3,hc,MapKept.run_findKey m2 hf,hks,MapKept.run_setObj_map _ f3,Result.andThen] <;>
  first|rfl|simp
 ·cases hput
theorem eLookup_sound (hF:Facts P) {t:TypeId} (ho:o.op= .lookup t x y false) (hx:opndB nt x=true) (hy:opndB nt y=true) (hg:Good X nt Z a w) (h:(eLookup t (opd Z.t x) (opd Z.t y)).Run PC Z.s v s' r wr):o.wp P a w (fun a' w'=>Good X nt ⟨putE o.dst v Z.t,s'⟩ a' w') Q:=by
 obtain⟨hs,hd,J,N,hst⟩:=id hg
 have hv:=hst.opd hs hx
 have hvy:=hst.opd hs hy
 unfold eLookup at h
 split at h
 case h_2=>exact h.elim
 rename_i mk z0 id ver i0 kv e1 e2 e3
 rw[e2]at hv;rw[e3]at hvy
 split at h
 case h_2=>exact h.elim
 rename_i hk
 obtain⟨_,_,k3⟩:=hv
 obtain⟨blk,r',hb,er,h2⟩:=live_run h
 subst er
 clear h
 have h:=h2
 clear h2
 try simp only at h
 split at h
 case h_2=>exact h.elim
 rename_i ob
 obtain⟨b,off,hβ,q⟩:=k3 _ hb
 obtain⟨q0,q'⟩:=q rfl
 subst q0
 clear q
 obtain⟨b',f1,f2,f3⟩:=hst.blk id _ (by rw[hb])
 rw[hβ]at f1;cases f1
 obtain⟨hz0,kt,et,m1,m2,m3⟩:=hF.mp t mk z0 e1
 have hc:∀e,(Instr.checkKey e 10000 kt kv).run P w= .ok () w:=fun e=>MapKept.run_checkKey (k:=kv) m2 (keyB_spec hk) e 9999
 have q:a.eval x=objV ob b:=q'
 have ey:a.eval y=kv:=hvy.1
 have key:∀res,mpGet mk ob kv=some res->(execOp a.eval o).run P w= .ok (.value (res.getD z0)) w:=by
  intro res hres
  unfold mpGet at hres
  split at hres
  case h_2=>cases hres
  rename_i es cl
  split at hres
  ·rename_i i x0 hf
   cases hres
   unfold execOp
   simp only[ho,q,ey,objV]
   simp[Instr.lookup,run_underlying m1,MapKept.run_getObj_map f3,hc,MapKept.run_findKey m2 hf,Result.andThen]
  ·rename_i hf
   cases hres
   unfold execOp
   simp only[ho,q,ey,objV]
   simp[Instr.lookup,run_underlying m1,MapKept.run_getObj_map f3,hc,MapKept.run_findKey m2 hf,Result.andThen,m3]
  ·cases hres
 unfold getM at h
 split at h
 ·obtain⟨x,hx,rfl,rfl,-,-⟩:=h
  unfold mpB at hx
  split at hx
  ·rename_i hg;cases hx;exact sound_val hs hd hst (u:= .bool false) (key _ hg) ⟨rfl,hz0⟩
  ·rename_i b0 hg;cases hx;exact sound_val hs hd hst (u:= .bool x) (key _ hg) ⟨rfl,trivial⟩
  ·cases hx
 ·obtain⟨x,hx,rfl,rfl,-,-⟩:=h
  unfold mpI at hx
  split at hx
  ·rename_i hg;cases hx;exact sound_val hs hd hst (u:= .int .i64 0) (key _ hg) ⟨rfl,hz0⟩
  ·rename_i b0 hg
   split at hx
   ·rename_i hw;cases hx;exact sound_val hs hd hst (u:= .int .i64 x) (key _ hg) ⟨rfl,hw⟩
   ·cases hx
  ·cases hx
 ·rename_i z1
  obtain⟨x,hx,rfl,rfl,-,-⟩:=h
  unfold mpS at hx
  split at hx
  ·rename_i hg;cases hx;exact sound_val hs hd hst (u:= .string z1) (key _ hg) ⟨rfl,hz0⟩
  ·rename_i b0 hg
   split at hx
   ·rename_i hw;cases hx;exact sound_val hs hd hst (u:= .string x) (key _ hg) ⟨rfl,hw⟩
   ·cases hx
  ·cases hx
 ·exact h.elim
end
open Go.RowKit
section
variable {P:Program} {PC:Con} {X:Ctx} {nt:Nat} {Q:Exit->Act->World->Prop} {Z:Env} {a:Act} {w:World} {o:Oper} {v:PV} {s':Sto} {r wr:List Nat}
def putL {α:Type} (l:List α) (p:Nat) (l2:List α):List α:=l.take p++l2++l.drop (p+l2.length)
theorem putL_len {l l2:List α} {p:Nat} (h:p+l2.length<=l.length):(putL l p l2).length=l.length:=by
 simp only[putL,List.length_append,List.length_take,List.length_drop];omega
theorem putL_in {l l2:List α} {p:Nat} (h:p+l2.length<=l.length) (hi:i<l2.length):(putL l p l2)[p+i]?=l2[i]?:=by
 unfold putL
 rw[List.append_assoc,List.getElem?_append_right (by simp;omega),List.getElem?_append_left (by simp;omega)]
 congr 1
 simp;omega
theorem putL_out {l l2:List α} {p:Nat} (h:p+l2.length<=l.length) (hi:i<p∨p+l2.length<=i):(putL l p l2)[i]?=l[i]?:=by
 unfold putL
 rcases hi with hi|hi
 ·rw[List.append_assoc,List.getElem?_append_left (by simp;omega),List.getElem?_take,if_pos hi]
 ·rw[List.getElem?_append_right (by simp;omega),List.getElem?_drop]
  congr 1
  simp only[List.length_append,List.length_take]
  omega
theorem store_rows {tm:Array Value} (h:St X Z w tm J N) {id:Nat} {l l2:List (ty k)} {us:List Value} {p b:Nat} (hid:Z.s id=⟨ver,some (.rowb k l)⟩) (hβ:J id=some (b,0))
  (hp:p+l2.length<=l.length) (hv:RowCells (Fz X w N Z.s) w l2 us) :
  ∃cur E,RowAt w b cur E/\p*size k+us.length<=cur.size/\St X ⟨Z.t,upd Z.s id ⟨ver,some (.rowb k (putL l p l2))⟩⟩ (w.setRow b (putAt cur (p*size k) us)) tm J N:=by
 have hb:=h.blk id _ (by rw[hid])
 rcases hb with⟨e,_⟩ |⟨b',cap,cur,q1,q2,q3,q4,q5,q6,q7,q8⟩
 ·rw[hβ]at e;cases e
 rw[hβ]at q1;cases q1
 obtain⟨hul,hcv⟩:=hv
 have hpl:=putL_len hp
 have hmul:(p+l2.length)*size k<=cap*size k:=Nat.mul_le_mul_right _ (by omega)
 rw[Nat.add_mul]at hmul
 have hfit:p*size k+us.length<=cur.size:=by rw[q7,hul];exact hmul
 refine⟨cur,tid k,q4,hfit,?_⟩
 have hsz:=putAt_size hfit
 obtain⟨fz,hh,hice⟩:=q4
 have hnew:(w.setRow b (putAt cur (p*size k) us)).heap[b]?=some (.cells (putAt cur (p*size k) us) (tid k) fz):=setRow_heap w b cur _ _ fz hh
 have hsame:∀z,z<w.heap.size->z∉N id->(w.setRow b (putAt cur (p*size k) us)).heap[z]?=w.heap[z]?:=fun z _ hz=>setRow_other w b z _ (fun e=>hz (by rw[q2,e];simp))
 have hblk0:(Z.s id).blk=some (.rowb k l):=by rw[hid]
 refine(St.step (Z:=Z) h (upd Z.s id ⟨ver,some (.rowb k (putL l p l2))⟩) (· = id) (by simp) (fun z hz hc=>hsame z hz (hc id _ rfl hblk0)) (fun i hi=>⟨upd_ne _ _ hi,rfl,rfl⟩) ?_ ?_ ?_ ?_ ?_ ?_ ?_ (h.rx_same hid .b .b hpl) ?_ ?_).2
 ·rintro i0 rfl v o n f u ⟨k1,k2,k3⟩
  refine⟨by rw[upd_same];rw[hid]at k1;exact k1,k2,fun blk' k' l' e hr=> ?_⟩
  rw[upd_same]at e
  cases e
  cases hr
  obtain⟨p1,p2⟩:=k3 _ k l hid .b
  refine⟨by rw[hpl];exact p1,?_⟩
  rcases p2 with p2|⟨b2,c,o2,p3,p4,p5,p5o,p6⟩
  ·exact .inl p2
  ·refine .inr ⟨b2,c,o2,p3,p4,p5,p5o,fun hf=> ?_⟩
   obtain⟨p7,p8,p9⟩:=p6 hf
   rw[hβ]at p3;cases p3
   refine⟨p7,by rw[hpl];exact p8,fun c2 E2 fz2 hc2=> ?_⟩
   rw[hnew]at hc2
   cases hc2
   rw[hsz]
   exact p9 cur _ fz hh
 ·rintro i0 rfl v i' j' u ⟨k1,k2,k3⟩
  refine⟨by rw[upd_same];rw[hid]at k1;exact k1,k2,fun blk e=> ?_⟩
  rw[upd_same]at e
  cases e
  obtain⟨b2,off2,p1,p2⟩:=k3 _ hid
  exact⟨b2,off2,p1,by show off2=0/\i'<(putL l p l2).length/\_;rw[hpl];exact p2⟩
 ·rintro i0 blk rfl hbk T
  rw[upd_same]at hbk
  cases hbk
  refine .inr ⟨b,cap,_,hβ,q2,by rw[hpl];exact q3,⟨fz,hnew,by rw[hsz];exact hice⟩,by rw[hpl];exact q5,q6,by rw[hsz];exact q7,fun i' x' hx' j' lf hlf=> ?_⟩
  have tl:∀{lf:Leaf} {u:Value},LeafV (Fz X w N Z.s) w lf u->LeafV (Fz X (w.setRow b (putAt cur (p*size k) us)) N (upd Z.s i0 ⟨ver,some (.rowb k (putL l p l2))⟩)) (w.setRow b (putAt cur (p*size k) us)) lf u:=by
   intro lf u hl
   cases lf with
   | sc q=>exact hl
   | nest k' l'=>exact T.row hl
  have hj':j'<size k:=by have:=(qS1.1 hlf).1;rwa[leaves_len]at this
  have hil:i'<l.length:=by have:=(qS1.1 hx').1;rwa[hpl]at this
  by_cases hii:p<=i'/\i'<p+l2.length
  ·obtain⟨m,rfl⟩:∃m,i'=p+m:=⟨i'-p,by omega⟩
   rw[putL_in hp (by omega)]at hx'
   obtain⟨u,hu,hl⟩:=hcv m x' hx' j' lf hlf
   have hm:m*size k+j'<us.length:=by rw[hul];exact mul_lt_add (by omega) hj'
   exact⟨u,by show(putAt cur (p*size k) us)[(p+m)*size k+j']?=some u;rw[show(p+m)*size k+j'=p*size k+(m*size k+j') by rw[Nat.add_mul];omega,putAt_in hfit hm];exact hu,tl hl⟩
  ·rw[putL_out hp (by omega)]at hx'
   obtain⟨u,h9,h10⟩:=q8 i' x' hx' j' lf hlf
   refine⟨u,?_,tl h10⟩
   show(putAt cur (p*size k) us)[i'*size k+j']?=some u
   rw[putAt_out hfit ?_]
   ·exact h9
   ·rcases Nat.lt_or_ge i' p with h11|h11
    ·left
     exact mul_lt_add h11 hj'
    ·right
     have h12:(p+l2.length)*size k<=i'*size k:=Nat.mul_le_mul_right _ (by omega)
     rw[Nat.add_mul]at h12
     rw[hul];omega
 ·rintro i0 blk rfl hbk z hz
  exact .inl ⟨i0,_,rfl,hblk0,hz⟩
 ·rintro i0 blk rfl hbk
  exact h.nodup i0 _ hblk0
 ·rintro i0 i' b1 b2 rfl rfl _ _ hne
  exact absurd rfl hne
 ·rintro i0 p hp rfl
  obtain⟨e1,cs',e2,e3⟩:=h.ext i0 p hp
  rw[hblk0]at e2
  cases e2
 ·refine Frm.turn h id _ hblk0 rfl rfl rfl (by simp) hsame fun i2 b2 off2 n hi2 hn hm=> ?_
  exfalso
  have hm':b2=b:=by rw[q2]at hm;simpa using hm
  subst hm'
  obtain⟨e1,cs',e2,e3⟩:=h.ext i2 _ hi2
  have hne:i2≠id:=fun e=>by subst e;rw[hblk0]at e2;cases e2
  have hb2:=h.blk i2 _ e2
  obtain⟨b3,off3,_,_,p1,p2,_⟩:=hb2
  rw[e1]at p1
  cases p1
  exact h.disj i2 id _ _ e2 hblk0 hne b2 (by rw[p2];simp) hm
 ·exact St.env_turn h id _ hblk0 hsame
def eClear (t:TypeId) (x:PV):Eff PV:=match slK t,x with
 | some _,.nil=> .ret (.tup [])
 | some k,.ref id ver off n _=>live id ver fun
  | .rowb _ l=>(match castL k l with
   | some l=> .wr id ⟨ver,some (.rowb k (putL l off (List.replicate n (zK k))))⟩ (.ret (.tup []))
   | none=> .fail)
  | _=> .fail
 | _,_=> .fail
def eCopy (t:TypeId) (x y:PV):Eff PV:=match slK t,x with
 | some k,.ref id ver off n _=>(elemsE k y).bind fun l2=>live id ver fun
  | .rowb _ l=>(match castL k l with
   | some l=> .wr id ⟨ver,some (.rowb k (putL l off (l2.take n)))⟩ (.ret (.v (.int .i64 ((l2.take n).length:Nat))))
   | none=> .fail)
  | _=> .fail
 | _,_=> .fail
theorem RowCells.take {S:Nat->Prop} {k:K} {l:List (ty k)} {xs:List Value} (h:RowCells S w l xs) (m:Nat) (hm:m<=l.length):RowCells S w (l.take m) (xs.take (m*size k)):=by
 obtain⟨h1,h2⟩:=h
 have hm2:m*size k<=l.length*size k:=Nat.mul_le_mul_right _ hm
 refine⟨by simp only[List.length_take];rw[h1,Nat.min_eq_left hm2,Nat.min_eq_left hm],fun i x hx j lf hlf=> ?_⟩
 have hi:i<m:=by have:=(qS1.1 hx).1;simp at this;omega
 rw[List.getElem?_take,if_pos hi]at hx
 have hj:j<size k:=by have:=(qS1.1 hlf).1;rwa[leaves_len]at this
 obtain⟨u,hu,hl⟩:=h2 i x hx j lf hlf
 exact⟨u,by show(xs.take (m*size k))[i*size k+j]?=some u;rw[List.getElem?_take,if_pos (mul_lt_add hi hj)];exact hu,hl⟩
theorem ref_open {tm:Array Value} (hst:St X Z w tm J N) {id:Nat} {full:Bool} {l:List (ty k)} (hs:Z.s id=⟨ver,some (.rowb k l)⟩) (hv:RefC w J Z.s id ver off n full u) :
  (u= .slice none 0 0/\l=[]/\n=0/\off=0)∨∃b c o,J id=some (b,0)/\u= .slice (some ⟨b,o,none⟩) n c/\n<=c/\off+n<=l.length/\(n≠0->o=off*size k):=by
 obtain⟨_,_,k3⟩:=hv
 obtain⟨q1,q2⟩:=k3 _ k l hs .b
 rcases q2 with⟨q2,q3⟩ |⟨b,c,o2,q2,q3,q4,q5,_⟩
 ·have hh:=row_head .b (hst.blk id _ (by rw[hs]))
  rcases hh with⟨_,e,_⟩ |⟨b,cap,cur,q,_⟩
  ·subst e;simp at q1;exact .inl ⟨q3,rfl,q1.2,q1.1⟩
  ·rw[q2]at q;cases q
 ·exact .inr ⟨b,c,o2,q2,q4,q3,q1,fun hn=>q5 (.inl hn)⟩
theorem putL_nil (l:List α) (p:Nat):putL l p []=l:=by simp[putL]
theorem upd_self' {e:Ent} (h:f i=e):upd f i e=f:=by
 funext j
 unfold upd
 split
 ·rename_i e2;rw[e2,h]
 ·rfl
theorem eClear_sound (hF:Facts P) {t:TypeId} (ho:o.op= .call {callee:= .builtin .clear,args:= #[x],argTypes:= #[t]}) (hx:opndB nt x=true) (hg:Good X nt Z a w) (h:(eClear t (opd Z.t x)).Run PC Z.s v s' r wr) :
  o.wp P a w (fun a' w'=>Good X nt ⟨putE o.dst v Z.t,s'⟩ a' w') Q:=by
 obtain⟨hs,hd,J,N,hst⟩:=id hg
 have hv:=hst.opd hs hx
 have fin:∀(w':World),(Builtin.clear_ #[t] o.type #[a.eval x]).run P w= .ok (.tuple #[]) w'->(execOp a.eval o).run P w= .ok (.value (.tuple #[])) w':=by
  intro w' hrun
  unfold execOp
  simp only[ho,resolve,invoke,builtin,Sem.run_bind,Sem.run_pure,Result.andThen_ok,List.map_toArray,List.map_cons,List.map_nil,hrun]
 unfold eClear at h
 split at h
 ·rename_i k ht he
  rw[he]at hv
  obtain⟨rfl,rfl,-,-⟩:v=_/\s'=_/\r=[]/\wr=[]:=h
  have hv:a.eval x= .slice none 0 0:=hv
  refine sound_val hs hd hst (fin w ?_) ⟨#[],rfl,trivial⟩
  rw[hv]
  simp[Builtin.clear_,run_underlying (hF.sl t k ht)]
 ·rename_i k id ver off n full ht he
  rw[he]at hv
  obtain⟨blk,r',hb,rfl,h⟩:=live_run h
  cases blk with
  | rowb k1 l1=>
   simp only at h
   split at h
   case h_2=>exact h.elim
   rename_i l hcl
   obtain⟨rfl,rfl⟩:=castL_some hcl
   obtain⟨w2,-,rfl,rfl,-,-⟩:=h
   rcases ref_open hst hb hv with⟨e1,rfl,rfl,rfl⟩ |⟨b,c,o2,e1,e2,e3,e4,e5⟩
   ·rw[List.replicate_zero,putL_nil,upd_self' hb]
    refine sound_val hs hd hst (fin w ?_) ⟨#[],rfl,trivial⟩
    rw[e1]
    simp[Builtin.clear_,run_underlying (hF.sl t _ ht)]
   ·by_cases hn:n=0
    ·subst hn
     rw[List.replicate_zero,putL_nil,upd_self' hb]
     refine sound_val hs hd hst (fin w ?_) ⟨#[],rfl,trivial⟩
     rw[e2]
     simp[Builtin.clear_,run_underlying (hF.sl t _ ht)]
    ·obtain⟨i,z,q1,q2,q3,q4,q5,q6⟩:=hF.el k1
     have hcells:RowCells (Fz X w N Z.s) w (List.replicate n (zK k1)) (madeCells z.cells (n*size k1)).toList:=by
      refine⟨by simp[size_madeCells],?_⟩
      have:=made_cont (w:=w) (S:=Fz X w N Z.s) (n:=n) (c:=n) q6 (Nat.le_refl _)
      simpa using this
     obtain⟨cur,E,r1,r2,st1⟩:=store_rows hst hb e1 (l2:=List.replicate n (zK k1)) (p:=off) (by simpa using e4) hcells
     refine sound_st (u:= .tuple #[]) hs hd (fin _ ?_) st1 ⟨#[],rfl,trivial⟩
     rw[e2,e5 hn]
     have hst2:=run_storeCells_row P b (off*size k1) E (madeCells z.cells (n*size k1)).toList 0 cur w r1 (by simpa using r2) (fun u hu=>hcells.one u hu)
     have hzc:Builtin.zeroCells z.cells n=madeCells z.cells (n*size k1):=by
      unfold Builtin.zeroCells madeCells
      rw[q5]
     have hnz:∀(q:Prop),n=0->q:=fun q e=>absurd e hn
     simp only[Nat.add_zero]at hst2
     cases n with
     | zero=>exact absurd rfl hn
     | succ n=>
      simp only[Builtin.clear_,List.getElem?_toArray,List.getElem?_cons_zero,Sem.run_bind,run_underlying (hF.sl t k1 ht),Result.andThen_ok]
      have hzv:(zeroValue (tid k1)).run P w= .ok z w:=by simp[zeroValue,typeInfo,q1,q2]
      simp only[hzv,Result.andThen_ok,hzc,hst2,Sem.run_pure]
      rfl
  | _=>exact h.elim
 ·exact h.elim
theorem eCopy_sound (hF:Facts P) {t t':TypeId} (ho:o.op= .call {callee:= .builtin .copy,args:= #[x,y],argTypes:= #[t,t']}) (hx:opndB nt x=true) (hy:opndB nt y=true) (hg:Good X nt Z a w) (h:(eCopy t (opd Z.t x) (opd Z.t y)).Run PC Z.s v s' r wr) :
  o.wp P a w (fun a' w'=>Good X nt ⟨putE o.dst v Z.t,s'⟩ a' w') Q:=by
 obtain⟨hs,hd,J,N,hst⟩:=id hg
 have hv:=hst.opd hs hx
 have hvy:=hst.opd hs hy
 have fin:∀(u:Value) (w':World),(Builtin.copy_ #[t,t'] o.type #[a.eval x,a.eval y]).run P w= .ok u w'->(execOp a.eval o).run P w= .ok (.value u) w':=by
  intro u w' hrun
  unfold execOp
  simp only[ho,resolve,invoke,builtin,Sem.run_bind,Sem.run_pure,Result.andThen_ok,List.map_toArray,List.map_cons,List.map_nil,hrun]
 unfold eCopy at h
 split at h
 ·rename_i k id ver off n full ht he
  rw[he]at hv
  obtain⟨l2,s1,r1,w1,r2,w2,h1,h⟩:=bind_run h
  have hl63:=elemsE_len hst hvy h1
  obtain⟨rfl,pa,c2,news,ey,hfc,hnews⟩:=elemsE_run hst hvy h1
  obtain⟨blk,r',hb,rfl,h⟩:=live_run h
  cases blk with
  | rowb k1 l1=>
   simp only at h
   split at h
   case h_2=>exact h.elim
   rename_i l hcl
   obtain⟨rfl,rfl⟩:=castL_some hcl
   obtain⟨w3,-,rfl,rfl,-,-⟩:=h
   have hlen:(l2.take n).length=Nat.min l2.length n:=by rw[List.length_take];exact Nat.min_comm _ _
   have wfn:wfV (.int .i64 ((l2.take n).length:Nat)):=(wrap_iff .i64 _).2 (by rw[List.length_take];simp[loK,hiK];omega)
   have hsz:(sizeOf (tid k1)).run P w= .ok (size k1) w:=by
    obtain⟨i,z,q1,q2,q3,_⟩:=hF.el k1
    simp[sizeOf,typeInfo,q1,q3]
   have hld:∀m,m<=l2.length->(Builtin.firstCells (size k1) m (.slice pa l2.length c2)).run P w= .ok (news.take (m*size k1)).toArray w:=by
    intro m hm
    by_cases hne:l2=[]
    ·subst hne
     have hn0:news=[]:=List.eq_nil_of_length_eq_zero (by simpa using hfc.1)
     have hm0:m=0:=by simpa using hm
     subst hm0 hn0
     cases pa with
     | none=>simp[Builtin.firstCells]
     | some p=>
      have:=run_loadCells_list (P:=P) w p [] (fun i u hu=>by simp at hu)
      simpa [Builtin.firstCells]using this
    ·obtain⟨b,off2,rfl,hcell⟩:=hnews hne
     have hm2:m*size k1<=news.length:=by rw[hfc.1];exact Nat.mul_le_mul_right _ hm
     have:=run_loadCells_list (P:=P) w ⟨b,off2,none⟩ (news.take (m*size k1)) (fun i u hu=>by
      rw[addr_add]
      have hi:i<m*size k1:=by have:=(qS1.1 hu).1;simp at this;omega
      rw[List.getElem?_take,if_pos hi]at hu
      exact hcell i u hu)
     rw[List.length_take,Nat.min_eq_left hm2]at this
     exact this
   have run0:∀(pd:Option Addr) (cd m:Nat) (w':World),m=Nat.min l2.length n->(match pd with
     | some q=>(storeCells q (news.take (m*size k1)))
     | none=>pure ()).run P w= .ok () w'->(Builtin.copy_ #[t,t'] o.type #[.slice pd n cd,a.eval y]).run P w= .ok (.int .i64 ((l2.take n).length:Nat)) w':=by
    intro pd cd m w' hm hst2
    rw[ey]
    have hld2:=hld (Nat.min l2.length n) (Nat.min_le_left _ _)
    subst hm
    simp only[Builtin.copy_,List.getElem?_toArray,List.getElem?_cons_zero,List.getElem?_cons_succ,Sem.run_bind,run_underlying (hF.sl t k1 ht),Result.andThen_ok,Builtin.lenOf,Sem.run_pure,hsz,hld2]
    cases pd with
    | none=>
     simp only[Sem.run_pure]at hst2
     cases hst2
     simp[hlen,goInt]
    | some q=>
     simp only at hst2
     simp[hst2,hlen,goInt]
   rcases ref_open hst hb hv with⟨e1,rfl,rfl,rfl⟩ |⟨b,c,o2,e1,e2,e3,e4,e5⟩
   ·rw[List.take_zero,putL_nil,upd_self' hb]
    refine sound_val hs hd hst (fin _ w ?_) ⟨rfl,by simpa using wfn⟩
    rw[e1]
    have:=run0 none 0 0 w (by simp) rfl
    simpa using this
   ·have hml:Nat.min l2.length n<=n:=Nat.min_le_right _ _
    have hcells:=hfc.take (Nat.min l2.length n) (Nat.min_le_left _ _)
    have htk:l2.take n=l2.take (Nat.min l2.length n):=by
     rw[show Nat.min l2.length n=min n l2.length from Nat.min_comm _ _,List.take_eq_take_min]
    obtain⟨cur,E,r1,r2,st1⟩:=store_rows hst hb e1 (l2:=l2.take (Nat.min l2.length n)) (p:=off) (by rw[List.length_take,Nat.min_eq_left (Nat.min_le_left _ _)];omega) hcells
    rw[<-htk]at st1
    by_cases hn:n=0
    ·subst hn
     rw[List.take_zero,putL_nil,upd_self' hb]
     refine sound_val hs hd hst (fin _ w ?_) ⟨rfl,by simpa using wfn⟩
     rw[e2]
     have hq:=run0 (some ⟨b,o2,none⟩) c 0 w (by simp) (by simp[storeCells])
     simpa using hq
    ·refine sound_st (u:= .int .i64 ((l2.take n).length:Nat)) hs hd (fin _ _ ?_) st1 ⟨rfl,wfn⟩
     rw[e2,e5 hn]
     have hst2:=run_storeCells_row P b (off*size k1) E (news.take (Nat.min l2.length n*size k1)) 0 cur w r1 (by simpa using r2) (fun u hu=>hcells.one u hu)
     simp only[Nat.add_zero]at hst2
     exact run0 _ c _ _ rfl hst2
  | _=>exact h.elim
 ·exact h.elim
end
open Go.RowKit
def val0B:PV->Bool
 | .agg _=>false
 | .tup _=>false
 | .fn _ _=>false
 | .obj _=>false
 | .row true _ _=>false
 | _=>true
def eMakeFunc (f:FuncId) (caps:List PV):Eff PV:=match caps.all val0B with
 | true=> .ret (.fn f caps)
 | false=> .fail
def eMakeF (fn:Fn) (first:List Operand) (caps:List PV):Eff PV:=match fn,first with
 | .func f,[]=>eMakeFunc f caps
 | _,_=> .fail
def refsA:List PV->List Nat
 | []=> []
 | .agg cs::l=>refsL cs++refsA l
 | .ref id _ _ _ _::l=>id::refsA l
 | _::l=>refsA l
def eCalls (o:Oper) (ρ:Operand->PV) (c:Call):Eff PV:=match c.callee with
 | .value x=>match ρ x with
  | .fn f caps=>unfL (refsA (c.args.toList.map ρ)) (match winT f with
   | some t=>eWin t (c.args.toList.map ρ++caps)
   | none=>match selT f with
    | some x=>eSel x (c.args.toList.map ρ++caps)
    | none=>eCallX ptrN mvT lnT o f (c.args.toList.map ρ++caps) c.argTypes.toList)
  | _=> .fail
 | .builtin .len=>match c.args.toList,c.argTypes.toList with
  | [x],[t]=>eLen t (ρ x)
  | _,_=> .fail
 | .builtin .append=>match c.args.toList,c.argTypes.toList with
  | [x,y],[t,t']=>if t'=t then unfL (refsA [ρ x,ρ y]) (eAppendX o t (ρ x) (ρ y))else .fail
  | _,_=> .fail
 | .builtin .min=>eMin false (c.args.toList.map ρ)
 | .builtin .max=>eMin true (c.args.toList.map ρ)
 | .builtin .clear=>match c.args.toList,c.argTypes.toList with
  | [x],[t]=>eClear t (ρ x)
  | _,_=> .fail
 | .builtin .copy=>match c.args.toList,c.argTypes.toList with
  | [x,y],[t,_]=>eCopy t (ρ x) (ρ y)
  | _,_=> .fail
 | _=> .fail
def eConv (o:Oper) (s d:TypeId) (x:PV):Eff PV:=match cvT s d with
 | some .toBytes=>eToBytes o s d x
 | some .toStr=>eToStr s d x
 | some (.int _)=>eConvI s d x
 | none=> .fail
def eopR (o:Oper) (ρ:Operand->PV):Eff PV:=match o.op with
 | .move x| .assign x=> .ret (ρ x)
 | .pick c x y=>ePick (ρ c) (ρ x) (ρ y)
 | .alloc t=>eAlloc o t
 | .box _ x=>eBox o (ρ x)
 | .build t parts=>eBuild t (parts.toList.map fun x=>(x.1,ρ x.2))
 | .buildSlice t n parts=>unfL (refsA ((parts.toList.map fun x=>(x.1,ρ x.2)).map (·.2))) (eBuildSliceX o t n (parts.toList.map fun x=>(x.1,ρ x.2)))
 | .load t x=>eLoadX t (ρ x)
 | .store t x y=>unfL (refsA [ρ y]) (eStoreX t (ρ x) (ρ y))
 | .nilCheck x=>eNil (ρ x)
 | .binOp op t x y _=>eBinQ o x op t (ρ x) (ρ y)
 | .unOp op _ x=>eUn op (ρ x)
 | .convert s d x=>eConv o s d (ρ x)
 | .makeSlice t l c=>eMakeSliceX o t (ρ l) (ρ c)
 | .slice t x lo hi none=>unfL (refsA [ρ x]) (eSlice t (ρ x) (lo.map ρ) (hi.map ρ))
 | .fieldAddr t x i=>eFieldAddr t i (ρ x)
 | .field t x i=>eField t i (ρ x)
 | .indexAddr t x y=>eIndexAddr t (ρ x) (ρ y)
 | .index t x y=>eIndex t (ρ x) (ρ y)
 | .extract x i=>eExtract (ρ x) i
 | .makeFunc fn first caps=>eMakeF fn first.toList (caps.toList.map ρ)
 | .makeMap _ none=>eMakeMap o
 | .insert t x y z=>eInsert t (ρ x) (ρ y) (ρ z)
 | .mapUpdate t x y z=>eInsert t (ρ x) (ρ y) (ρ z)
 | .lookup t x y false=>eLookup t (ρ x) (ρ y)
 | .call c=>eCalls o ρ c
 | _=> .fail
def eop (o:Oper) (t:Nat->PV):Eff PV:=eopR o (opd t)
def operB (nt:Nat) (o:Oper):Bool:=o.op.operands.toList.all (opndB nt)
theorem eopR_congr (o:Oper) {ρ ρ':Operand->PV} (h:∀x∈o.op.operands,ρ' x=ρ x):eopR o ρ'=eopR o ρ:=by
 unfold eopR
 have hm:∀(l:List (Nat×Operand)),(∀x∈l.map (·.2),ρ' x=ρ x)->(l.map fun x=>(x.1,ρ' x.2))=l.map fun x=>(x.1,ρ x.2):=by
  intro l hl
  apply List.map_congr_left
  intro x hx
  rw[hl x.2 (List.mem_map.2 ⟨x,hx,rfl⟩)]
 cases hop:o.op<;>rw[hop]at h<;>simp only[Op.operands]at h<;>try rfl
 case build t parts=>simp only;rw[hm parts.toList (by simpa using h)]
 case buildSlice t n parts=>simp only;rw[hm parts.toList (by simpa using h)]
 case slice t x lo hi mx=>
  cases mx with
  | some m=>rfl
  | none=>
   simp only
   rw[h x (by simp)]
   congr 2
   ·cases lo with
    | none=>rfl
    | some y=>simp only[Option.map_some];rw[h y (by simp)]
   ·cases hi with
    | none=>rfl
    | some y=>simp only[Option.map_some];rw[h y (by simp)]
 case makeFunc fn first caps=>
  simp only
  have hm:caps.toList.map ρ'=caps.toList.map ρ:=List.map_congr_left fun x hx=>h x (Array.mem_append.2 (.inr (Array.mem_toList_iff.1 hx)))
  rw[hm]
 case makeMap t hn=>
  cases hn<;>rfl
 case lookup t x y c=>
  cases c with
  | true=>rfl
  | false=>simp only;rw[h x (by simp),h y (by simp)]
 case call c=>
  simp only
  obtain⟨callee,args,ats⟩:=c
  have ha:∀x∈args.toList,ρ' x=ρ x:=fun x hx=>h x (by cases callee<;>simp[Call.operands,Array.mem_def,hx])
  have hmap:args.toList.map ρ'=args.toList.map ρ:=List.map_congr_left ha
  unfold eCalls
  simp only[hmap]
  split<;>try rfl
  ·rename_i x
   rw[h x (by simp[Call.operands])]
  ·split
   ·rename_i x t e1 e2
    rw[ha x (by rw[e1];simp)]
   ·rfl
  ·split
   ·rename_i x y t t' e1 e2
    rw[ha x (by rw[e1];simp),ha y (by rw[e1];simp)]
   ·rfl
  ·split
   ·rename_i x t e1 e2
    rw[ha x (by rw[e1];simp)]
   ·rfl
  ·split
   ·rename_i x y t t' e1 e2
    rw[ha x (by rw[e1];simp),ha y (by rw[e1];simp)]
   ·rfl
 all_goals simp only;simp only[List.mem_toArray,Array.mem_def,List.mem_cons,List.not_mem_nil,or_false,forall_eq_or_imp,forall_eq]at h;simp only[h]
theorem eop_looks {ops:Array Oper}:Looks eop ops:=fun o t t' h=>eopR_congr o fun x hx=>by
 cases x with
 | tmp d=>
  show t' d=t d
  exact h d (List.mem_append_left _ (List.mem_filterMap.2 ⟨.tmp d,by simpa using hx,rfl⟩))
 | const v=>rfl
 | func f=>rfl
 | global g=>rfl
theorem eMakeFunc_sound {a:Act} {w:World} {PC:Con} {v:PV} {s':Sto} {r wr:List Nat} {Q:Exit->Act->World->Prop} {f:FuncId} {caps:Array Operand} (ho:o.op= .makeFunc (.func f) #[] caps) (hx:caps.toList.all (opndB nt)=true) (hg:Good X nt Z a w) (h:(eMakeFunc f (caps.toList.map (opd Z.t))).Run PC Z.s v s' r wr) :
  o.wp P a w (fun a' w'=>Good X nt ⟨putE o.dst v Z.t,s'⟩ a' w') Q:=by
 obtain⟨hs,hd,J,N,hst⟩:=id hg
 unfold eMakeFunc at h
 split at h
 case h_2=>exact h.elim
 rename_i hc
 obtain⟨rfl,rfl,-,-⟩:=h
 refine sound_val hs hd hst (u:= .func (.func f) #[] (caps.map a.eval)) ?_ ⟨caps.map a.eval,rfl,?_⟩
 ·unfold execOp
  simp[ho,Instr.makeFunc]
 ·rw[Array.toList_map]
  have h2:All2 (ValC (Fz X w N Z.s) w J Z.s) (caps.toList.map (opd Z.t)) (caps.toList.map a.eval):=All2.map_args fun x hxm=>hst.opd hs (List.all_eq_true.1 hx x hxm)
  have key:∀{ps:List PV} {us:List Value},ps.all val0B=true->All2 (ValC (Fz X w N Z.s) w J Z.s) ps us->All2 (Val0 (Fz X w N Z.s) w J Z.s) ps us:=by
   intro ps
   induction ps with
   | nil=>intro us _ h;cases us with
    | nil=>trivial
    | cons _ _=>exact h.elim
   | cons p ps ih=>
    intro us hb h
    cases us with
    | nil=>exact h.elim
    | cons u us=>
     rw[List.all_cons,Bool.and_eq_true]at hb
     exact⟨by cases p<;>first|exact h.1|(exact absurd hb.1 (by simp[val0B])),ih hb.2 h.2⟩
  exact key hc h2
theorem eop_sound (hF:Facts P) {G:Nat} {E:World->Prop} (hE:X.E=E) (hG:X.G=G) (hb:operB nt o=true):OpSound P (PCalls P G E) eop X nt o:=by
 intro Z a w v s' r wr Q hg h
 unfold eop eopR at h
 unfold operB at hb
 cases hop:o.op<;>simp only[hop]at h<;>rw[hop]at hb<;>simp only[Op.operands]at hb<;>try exact h.elim
 case move x=>exact eMove_sound (.inl hop) (by simpa using hb) hg h
 case assign x=>exact eMove_sound (.inr hop) (by simpa using hb) hg h
 case pick c x y=>
  simp only[List.all_cons,List.all_nil,Bool.and_eq_true,and_true]at hb
  exact ePick_sound hop hb.1 hb.2.1 hb.2.2 hg h
 case alloc t=>exact eAlloc_sound hF hop hg h
 case box t x=>exact eBox_sound hF hop (by simpa using hb) hg h
 case build t parts=>exact eBuild_sound hF hop (by simpa using hb) hg h
 case buildSlice t n parts=>
  obtain⟨s1,r1,w1,hg,h⟩:=unfL_good hg h
  exact eBuildSliceX_sound (Z:=⟨Z.t,s1⟩) hF hop (by simpa using hb) hg h
 case load t x=>exact eLoadX_sound hF hop (by simpa using hb) hg h
 case store t x y=>
  simp only[List.all_cons,List.all_nil,Bool.and_eq_true,and_true]at hb
  obtain⟨s1,r1,w1,hg,h⟩:=unfL_good hg h
  exact eStoreX_sound (Z:=⟨Z.t,s1⟩) hF hop hb.1 hb.2 hg h
 case nilCheck x=>exact eNil_sound hop (by simpa using hb) hg h
 case binOp op t x y t'=>
  simp only[List.all_cons,List.all_nil,Bool.and_eq_true,and_true]at hb
  replace h:(eBinQ o x op t (opd Z.t x) (opd Z.t y)).Run (PCalls P G E) Z.s v s' r wr:=h
  unfold eBinQ at h
  split at h
  ·exact eWrap_sound hop hb.1 hb.2 hg h
  ·exact eBin_sound hF hop hb.1 hb.2 hg h
 case unOp op t x=>exact eUn_sound hop (by simpa using hb) hg h
 case convert s d x=>
  unfold eConv at h
  split at h
  ·exact eToBytes_sound hF hop (by simpa using hb) hg h
  ·exact eToStr_sound hF hop (by simpa using hb) hg h
  ·exact eConvI_sound hF hop (by simpa using hb) hg h
  ·exact h.elim
 case makeSlice t l c=>
  simp only[List.all_cons,List.all_nil,Bool.and_eq_true,and_true]at hb
  exact eMakeSliceX_sound hF hop hb.1 hb.2 hg h
 case slice t x lo hi mx=>
  cases mx with
  | some m=>exact h.elim
  | none=>
   have hall:=fun y hy=>List.all_eq_true.1 hb y hy
   obtain⟨s1,r1,w1,hg,h⟩:=unfL_good hg h
   exact eSlice_sound (Z:=⟨Z.t,s1⟩) hF hop (hall x (by simp)) (fun y e=>hall y (by simp[e])) (fun y e=>hall y (by simp[e])) hg h
 case fieldAddr t x i=>exact eFieldAddr_sound hF hop (by simpa using hb) hg h
 case field t x i=>exact eField_sound hF hop (by simpa using hb) hg h
 case indexAddr t x y=>
  simp only[List.all_cons,List.all_nil,Bool.and_eq_true,and_true]at hb
  exact eIndexAddr_sound hF hop hb.1 hb.2 hg h
 case index t x y=>
  simp only[List.all_cons,List.all_nil,Bool.and_eq_true,and_true]at hb
  exact eIndex_sound hF hop hb.1 hb.2 hg h
 case extract x i=>exact eExtract_sound hop (by simpa using hb) hg h
 case makeFunc fn first caps=>
  unfold eMakeF at h
  split at h
  ·rename_i f e1
   obtain rfl:first= #[]:=by apply Array.ext';simpa using e1
   exact eMakeFunc_sound hop (by simpa using hb) hg h
  ·exact h.elim
 case makeMap t hn=>
  cases hn with
  | none=>exact eMakeMap_sound hop hg h
  | some y=>exact h.elim
 case insert t x y z=>
  simp only[List.all_cons,List.all_nil,Bool.and_eq_true,and_true]at hb
  exact eInsert_sound hF (.inl hop) hb.1 hb.2.1 hb.2.2 hg h
 case mapUpdate t x y z=>
  simp only[List.all_cons,List.all_nil,Bool.and_eq_true,and_true]at hb
  exact eInsert_sound hF (.inr hop) hb.1 hb.2.1 hb.2.2 hg h
 case lookup t x y c=>
  cases c with
  | true=>exact h.elim
  | false=>
   simp only[List.all_cons,List.all_nil,Bool.and_eq_true,and_true]at hb
   exact eLookup_sound hF hop hb.1 hb.2 hg h
 case call c=>
  obtain⟨callee,args,ats⟩:=c
  have ha:args.toList.all (opndB nt)=true:=List.all_eq_true.2 fun y hy=>List.all_eq_true.1 hb y (by cases callee<;>simp[Call.operands,hy])
  unfold eCalls at h
  split at h
  ·rename_i x e
   simp only at e
   subst e
   have hxb:opndB nt x=true:=List.all_eq_true.1 hb x (by simp[Call.operands])
   split at h
   case h_2=>exact h.elim
   rename_i f caps hfn
   obtain⟨s1,r1,w1,hg,h⟩:=unfL_good hg h
   have hfv:∃uc:Array Value,a.eval x= .func (.func f) #[] uc/\∀J N,St X ⟨Z.t,s1⟩ w a.tmps J N->All2 (Val0 (Fz X w N s1) w J s1) caps uc.toList:=by
    obtain⟨hs,hd,J,N,hst⟩:=id hg
    have hv:=hst.opd hs hxb
    rw[hfn]at hv
    obtain⟨uc,e1,_⟩:=hv
    refine⟨uc,e1,fun J' N' hst'=> ?_⟩
    have hv':=hst'.opd hs hxb
    rw[hfn]at hv'
    obtain⟨uc',e2,e3⟩:=hv'
    rw[e1]at e2
    injection e2 with _ _ e2
    rw[e2];exact e3
   obtain⟨uc,hev,hcv⟩:=hfv
   have e2:(args.toList.map a.eval++uc.toList).toArray=args.map a.eval++uc:=by apply Array.ext';simp
   have hex:(execOp a.eval o).run P w=(callFunc f (args.toList.map a.eval++uc.toList).toArray).run P w:=by
    rw[e2]
    unfold execOp
    simp[hop,resolve,Deferred.ofValue,invoke,hev]
   have hps:∀J N,St X ⟨Z.t,s1⟩ w a.tmps J N->All2 (ValC (Fz X w N s1) w J s1) (args.toList.map (opd Z.t)++caps) (args.toList.map a.eval++uc.toList):=fun J N hst=>All2.app (All2.map_args fun x hxm=>hst.opd hg.1 (List.all_eq_true.1 ha x hxm)) ((hcv J N hst).mono fun p u hv=>by cases p<;>first|exact hv|exact hv.elim)
   split at h
   ·rename_i t ht
    exact eWin_sound (Z:=⟨Z.t,s1⟩) hF ht hex hg hps h
   ·split at h
    ·rename_i x hx
     exact eSel_sound (Z:=⟨Z.t,s1⟩) hF hx hex hg hps h
    ·exact eCallX_sound (Z:=⟨Z.t,s1⟩) hE hG hex hg hps h
  ·rename_i e
   simp only at e
   subst e
   split at h
   ·rename_i x t e1 e2
    simp only at e1 e2
    obtain rfl:args= #[x]:=by apply Array.ext';simpa using e1
    obtain rfl:ats= #[t]:=by apply Array.ext';simpa using e2
    exact eLen_sound hF hop (by simpa using ha) hg h
   ·exact h.elim
  ·rename_i e
   simp only at e
   subst e
   split at h
   ·rename_i x y t t' e1 e2
    simp only at e1 e2
    split at h
    ·rename_i e3
     subst e3
     obtain rfl:args= #[x,y]:=by apply Array.ext';simpa using e1
     obtain rfl:ats= #[t',t']:=by apply Array.ext';simpa using e2
     simp only[List.all_cons,List.all_nil,Bool.and_eq_true,and_true]at ha
     obtain⟨s1,r1,w1,hg,h⟩:=unfL_good hg h
     exact eAppendX_sound (Z:=⟨Z.t,s1⟩) hF hop ha.1 ha.2 hg h
    ·exact h.elim
   ·exact h.elim
  ·rename_i e
   simp only at e
   subst e
   exact eMin_sound (b:=false) hop ha hg h
  ·rename_i e
   simp only at e
   subst e
   exact eMin_sound (b:=true) hop ha hg h
  ·rename_i e
   simp only at e
   subst e
   split at h
   ·rename_i x t e1 e2
    simp only at e1 e2
    obtain rfl:args= #[x]:=by apply Array.ext';simpa using e1
    obtain rfl:ats= #[t]:=by apply Array.ext';simpa using e2
    exact eClear_sound hF hop (by simpa using ha) hg h
   ·exact h.elim
  ·rename_i e
   simp only at e
   subst e
   split at h
   ·rename_i x y t t' e1 e2
    simp only at e1 e2
    obtain rfl:args= #[x,y]:=by apply Array.ext';simpa using e1
    obtain rfl:ats= #[t,t']:=by apply Array.ext';simpa using e2
    simp only[List.all_cons,List.all_nil,Bool.and_eq_true,and_true]at ha
    exact eCopy_sound hF hop ha.1 ha.2 hg h
   ·exact h.elim
  ·exact h.elim
open Go.RowKit
def structB (P:Program) (t:TypeId):Option (Array Field):=match P.underlying t with
 | some (.struct fs)=>some fs
 | _=>none
theorem structB_spec {t:TypeId} {fs:Array Field} (h:structB P t=some fs):P.underlying t=some (.struct fs):=by
 unfold structB at h
 split at h
 ·rename_i e;cases h;exact e
 ·cases h
def szB (P:Program) (t:TypeId) (n:Nat):Bool:=match P.info? t with
 | some i=>i.size==n
 | none=>false
theorem szB_spec {t:TypeId} (h:szB P t n=true):(P.info? t).map (·.size)=some n:=by
 unfold szB at h
 split at h
 ·rename_i i e;rw[e];simpa using h
 ·cases h
def slB (P:Program) (t e:TypeId):Bool:=match P.underlying t with
 | some (.slice e')=>e'==e
 | _=>false
theorem slB_spec {t e:TypeId} (h:slB P t e=true):P.underlying t=some (.slice e):=by
 unfold slB at h
 split at h
 ·rename_i e' he;rw[he];simp at h;rw[h]
 ·cases h
def strB (P:Program) (t:TypeId):Bool:=match P.underlying t with
 | some .string=>true
 | _=>false
theorem strB_spec {t:TypeId} (h:strB P t=true):P.underlying t=some .string:=by
 unfold strB at h
 split at h
 ·rename_i he;exact he
 ·cases h
def boolB (P:Program) (t:TypeId):Bool:=match P.underlying t with
 | some .bool=>true
 | _=>false
theorem boolB_spec {t:TypeId} (h:boolB P t=true):P.underlying t=some .bool:=by
 unfold boolB at h
 split at h
 ·rename_i he;exact he
 ·cases h
def intB (P:Program) (t:TypeId) (k:IntKind):Bool:=match P.underlying t with
 | some (.int k')=>k'==k
 | _=>false
theorem intB_spec {t:TypeId} {k:IntKind} (h:intB P t k=true):P.underlying t=some (.int k):=by
 unfold intB at h
 split at h
 ·rename_i k' he;rw[he];simp at h;rw[h]
 ·cases h
def sameV:Value->Value->Bool
 | .int k n,.int k' n'=>k==k'&&n==n'
 | .string a,.string b=>a.data.toList==b.data.toList
 | .bool a,.bool b=>a==b
 | .pointer none,.pointer none=>true
 | .nilFunc,.nilFunc=>true
 | _,_=>false
theorem sameV_spec {v:Value} (h:sameV u v=true):u=v:=by
 unfold sameV at h
 split at h<;>simp_all
 rename_i a b
 exact ByteArray.ext h
def zeroLB:Leaf->Value->Bool
 | .sc q,u=>sameV u q&&wfB q
 | .nest _ l,.slice none 0 0=>l.isEmpty
 | _,_=>false
theorem zeroLB_spec {lf:Leaf} (h:zeroLB lf u=true):ZeroL lf u:=by
 unfold zeroLB at h
 split at h
 ·simp only[Bool.and_eq_true]at h;exact⟨sameV_spec h.1,wfB_spec h.2⟩
 ·exact⟨rfl,by simpa using h⟩
 ·cases h
def zeroCB:List Leaf->List Value->Bool
 | [],[]=>true
 | a::as,b::bs=>zeroLB a b&&zeroCB as bs
 | _,_=>false
theorem zeroCB_spec:∀{zs:List Leaf} {us:List Value},zeroCB zs us=true->us.length=zs.length/\∀(j:Nat) lf,zs[j]?=some lf->∃u,us[j]?=some u/\ZeroL lf u
 | [],[],_=>⟨rfl,fun j lf h=>by simp at h⟩
 | a::as,b::bs,h=>by
  simp only[zeroCB,Bool.and_eq_true]at h
  obtain⟨h1,h2⟩:=zeroCB_spec h.2
  refine⟨by simp[h1],fun j lf hj=> ?_⟩
  cases j with
  | zero=>cases hj;exact⟨b,rfl,zeroLB_spec h.1⟩
  | succ j=>exact h2 j lf hj
 | [],_::_,h=>by cases h
 | _::_,[],h=>by cases h
theorem zeroC_of {zs:List Leaf} {z:Value} (h:zeroCB zs z.cells.toList=true):ZeroC zs z.cells:=by
 obtain⟨h1,h2⟩:=zeroCB_spec h
 exact⟨by simpa using h1,fun j lf hj=>by simpa using h2 j lf hj⟩
def zeroB (P:Program) (t:TypeId) (zs:List Leaf):Bool:=match P.info? t with
 | some i=>match i.zero with
  | some z=>zeroCB zs z.cells.toList
  | none=>false
 | none=>false
theorem zeroB_spec {t:TypeId} {zs:List Leaf} (h:zeroB P t zs=true):∃i z,P.info? t=some i/\i.zero=some z/\ZeroC zs z.cells:=by
 unfold zeroB at h
 split at h
 ·split at h
  ·rename_i i e _ z e2;exact⟨i,z,e,e2,zeroC_of h⟩
  ·cases h
 ·cases h
def elB (P:Program) (k:K):Bool:=match P.info? (tid k)with
 | some i=>match i.zero with
  | some z=>i.size==size k&&(i.bytes==byt k&&zeroCB (leaves (zK k)) z.cells.toList)
  | none=>false
 | none=>false
def aggOf (P:Program) (t:TypeId):Option Bool:=match P.underlying t with
 | some (.struct _)|some (.array _ _)=>some true
 | some _=>some false
 | none=>none
theorem aggOf_spec {t:TypeId} {b:Bool} (h:aggOf P t=some b) (w:World):(isAgg t).run P w= .ok b w:=by
 unfold aggOf at h
 unfold isAgg
 split at h
 ·rename_i fs e;cases h;simp[run_underlying e]
 ·rename_i n e0 e;cases h;simp[run_underlying e]
 ·rename_i d h1 h2 e
  cases h
  simp only[Sem.run_bind,run_underlying e,Result.andThen_ok]
  cases d<;>first|simp|exact absurd e (h1 _)|exact absurd e (h2 _ _)
 ·cases h
def fld1B (P:Program) (f:Field) (x:Nat×Bool×Nat):Bool:=x.2.2 !=0&&(f.offset==x.1&&(aggOf P f.type==some x.2.1&&(szB P f.type x.2.2&&(x.2.1||x.2.2==1))))
def fldsB (P:Program):List Field->List (Nat×Bool×Nat)->Bool
 | [],[]=>true
 | f::fs,x::xs=>fld1B P f x&&fldsB P fs xs
 | _,_=>false
theorem fldsB_spec {P:Program}:∀{fs:List Field} {xs:List (Nat×Bool×Nat)},fldsB P fs xs=true->∀(i:Nat) x,xs[i]?=some x->∃f,fs[i]?=some f/\fld1B P f x=true
 | [],[],_,i,x,hx=>by simp at hx
 | f::fs,y::xs,h,i,x,hx=>by
  simp only[fldsB,Bool.and_eq_true]at h
  cases i with
  | zero=>cases hx;exact⟨f,rfl,h.1⟩
  | succ i=>exact fldsB_spec h.2 i x hx
 | [],_::_,h,_,_,_=>by cases h
 | _::_,[],h,_,_,_=>by cases h
theorem fldsB_places {P:Program}:∀{fs:List Field} {xs:List (Nat×Bool×Nat)},fldsB P fs xs=true->fs.mapM (fun f=>(P.info? f.type).map fun i=>(f.offset,i.size))=some (xs.map fun x=>(x.1,x.2.2))
 | [],[],_=>rfl
 | f::fs,y::xs,h=>by
  simp only[fldsB,Bool.and_eq_true]at h
  obtain⟨h1,h2⟩:=h
  unfold fld1B at h1
  simp only[Bool.and_eq_true,beq_iff_eq]at h1
  obtain⟨_,e1,_,e2,_⟩:=h1
  have e3:=szB_spec e2
  cases hi:P.info? f.type with
  | none=>simp[hi]at e3
  | some i=>
   have e4:i.size=y.2.2:=by simpa [hi]using e3
   simp[List.mapM_cons,hi,fldsB_places h2,e1,e4]
 | [],_::_,h=>by cases h
 | _::_,[],h=>by cases h
def strctB (P:Program) (t:TypeId) (xs:List (Nat×Bool×Nat)):Bool:=match structB P t with
 | some fs=>fldsB P fs.toList xs&&(match zeroT t with|some zs=>zeroB P t zs|none=>false)
 | none=>false
def cv1B (P:Program) (s t:TypeId):Cv->Bool
 | .int k=>(P.underlying s).isSome&&intB P t k
 | .toBytes=>(P.underlying s).isSome&&(slB P t (tid .u8)&&intB P (tid .u8) .u8)
 | .toStr=>slB P s (tid .u8)&&(strB P t&&intB P (tid .u8) .u8)
def mapB (P:Program) (t:TypeId) (m:MK) (z:Value):Bool:=match P.underlying t with
 | some (.map kt et)=>(match P.underlying kt,m with
   | some .string,.s=>true
   | some (.int .i64),.i=>true
   | some .bool,.b=>true
   | _,_=>false)&&(match P.info? et,z with
   | some i,.int .i64 n=>(match i.zero with|some (.int .i64 n')=>n==0&&n'==0|_=>false)
   | some i,.string s=>(match i.zero with|some (.string s')=>s.size==0&&s'.size==0|_=>false)
   | some i,.bool b=>(match i.zero with|some (.bool b')=>b==false&&b'==false|_=>false)
   | _,_=>false)
 | _=>false
theorem ba_empty {s:ByteArray} (h:s.size=0):s=ByteArray.empty:=by
 apply ByteArray.ext
 exact Array.eq_empty_of_size_eq_zero h
theorem mapB_spec {t:TypeId} {m:MK} {z:Value} (h:mapB P t m z=true):wfV z/\∃kt et,P.underlying t=some (.map kt et)/\P.underlying kt=some m.td/\∀w,(zeroValue et).run P w= .ok z w:=by
 unfold mapB at h
 split at h
 case h_2=>cases h
 rename_i kt et e
 simp only[Bool.and_eq_true]at h
 obtain⟨h1,h2⟩:=h
 have hk:P.underlying kt=some m.td:=by
  split at h1
  ·rename_i e1;rw[e1];rfl
  ·rename_i e1;rw[e1];rfl
  ·rename_i e1;rw[e1];rfl
  ·cases h1
 have key:wfV z/\∀w,(zeroValue et).run P w= .ok z w:=by
  split at h2
  ·rename_i i n e2
   split at h2
   ·rename_i n' e3
    simp only[Bool.and_eq_true,beq_iff_eq]at h2
    obtain⟨rfl,rfl⟩:=h2
    exact⟨rfl,fun w=>by simp[zeroValue,typeInfo,e2,e3]⟩
   ·cases h2
  ·rename_i i s e2
   split at h2
   ·rename_i s' e3
    simp only[Bool.and_eq_true,beq_iff_eq]at h2
    obtain⟨h3,h4⟩:=h2
    have:=ba_empty h3
    have:=ba_empty h4
    subst_vars
    exact⟨by show _<=_;rw[h3];omega,fun w=>by simp[zeroValue,typeInfo,e2,e3]⟩
   ·cases h2
  ·rename_i i b e2
   split at h2
   ·rename_i b' e3
    simp only[Bool.and_eq_true,beq_iff_eq]at h2
    obtain⟨rfl,rfl⟩:=h2
    exact⟨trivial,fun w=>by simp[zeroValue,typeInfo,e2,e3]⟩
   ·cases h2
  ·cases h2
 exact⟨key.1,kt,et,e,hk,key.2⟩
def factsB (P:Program):Bool:=
 tyL.all (fun x=>match x.2 with|(true,n)=>(structB P x.1).isSome&&(szB P x.1 n&&(look x.1 fldL).isSome)|(false,n)=>n==1&&(aggOf P x.1==some false&&szB P x.1 1)) &&
 (slL.all (fun x=>slB P x.1 (tid x.2))&&(allK.all (elB P)&&(fldL.all (fun x=>strctB P x.1 x.2)&&(strL.all (strB P)&&(boolL.all (boolB P)&&(zeroTL.all (fun x=>zeroB P x.1 x.2)&&(cvL.all (fun x=>cv1B P x.1 x.2.1 x.2.2)&&mapL.all (fun x=>mapB P x.1 x.2.1 x.2.2))))))))
theorem fldT_mem {t:TypeId} {x:Nat×Bool×Nat} (h:fldT t i=some x):∃l,(t,l)∈fldL/\look t fldL=some l/\l[i]?=some x:=by
 unfold fldT at h
 split at h
 ·rename_i l e;exact⟨l,look_mem e,e,h⟩
 ·cases h
theorem Facts.of (hw:WinOk P) (hs:SelOk P) (h:factsB P=true):Facts P:=by
 unfold factsB at h
 simp only[Bool.and_eq_true,List.all_eq_true]at h
 obtain⟨hty,hsl,hel,hfl,hstr,hbool,hz,hcv,hmp⟩:=h
 have strct:∀{t:TypeId} {l:List (Nat×Bool×Nat)},(t,l)∈fldL->∃fs,P.underlying t=some (.struct fs)/\fldsB P fs.toList l=true/\∃zs,zeroT t=some zs/\zeroB P t zs=true:=by
  intro t l hm
  have:=hfl _ hm
  unfold strctB at this
  split at this
  ·rename_i fs e
   simp only[Bool.and_eq_true]at this
   refine⟨fs,structB_spec e,this.1,?_⟩
   have h2:=this.2
   split at h2
   ·rename_i zs ez;exact⟨zs,ez,h2⟩
   ·cases h2
  ·cases this
 refine⟨fun t n ht=> ?_,fun t k ht=>slB_spec (hsl _ (look_mem ht)),fun k=> ?_,fun t i off ag n hf=> ?_,fun t ht=>strB_spec (hstr t (by simpa [isStrT]using ht)),fun t ht=>boolB_spec (hbool t (by simpa [isBoolT]using ht)),fun s t k hc=> ?_,fun t zs ht=>zeroB_spec (hz _ (look_mem ht)),fun t n ht=> ?_,fun s t hc=> ?_,fun s t hc=> ?_,fun t m z ht=>mapB_spec (hmp _ (look_mem ht)),fun t n ht=> ?_,hw,hs⟩
 ·have:=hty _ (look_mem ht)
  simp only[Bool.and_eq_true]at this
  cases hs:structB P t with
  | none=>rw[hs]at this;simp at this
  | some fs=>exact⟨⟨fs,structB_spec hs⟩,szB_spec this.2.1⟩
 ·have:=hel k (mem_allK k)
  unfold elB at this
  split at this
  ·split at this
   ·rename_i i e _ z e2
    simp only[Bool.and_eq_true,beq_iff_eq]at this
    have hzc:=zeroC_of this.2.2
    exact⟨i,z,e,e2,this.1,this.2.1,by rw[hzc.1,leaves_len],hzc⟩
   ·cases this
  ·cases this
 ·obtain⟨l,hm,_,hx⟩:=fldT_mem hf
  obtain⟨fs,h1,h2,_⟩:=strct hm
  obtain⟨f,h3,h4⟩:=fldsB_spec h2 i _ hx
  unfold fld1B at h4
  simp only[Bool.and_eq_true,beq_iff_eq,bne_iff_ne,ne_eq,Bool.or_eq_true]at h4
  obtain⟨g1,g2,g3,g4,g5⟩:=h4
  exact⟨g1,fs,f,h1,by simpa using h3,g2,aggOf_spec g3,szB_spec g4,fun e=>by subst e;simpa using g5⟩
 ·have:=hcv _ (look2_mem hc)
  simp only[cv1B,Bool.and_eq_true]at this
  exact⟨Option.isSome_iff_exists.1 this.1,intB_spec this.2⟩
 ·have:=hty _ (look_mem ht)
  simp only[Bool.and_eq_true]at this
  obtain⟨l,hl⟩:=Option.isSome_iff_exists.1 this.2.2
  obtain⟨fs,h1,h2,zs,h3,h4⟩:=strct (look_mem hl)
  obtain⟨it,z,h5,h6,h7⟩:=zeroB_spec h4
  refine⟨it,fs,z,_,zs,h3,h5,h1,h6,h7,fldsB_places h2,fun i off ag n hf=> ?_⟩
  obtain⟨l',_,hl',hx⟩:=fldT_mem hf
  rw[hl]at hl';cases hl'
  rw[List.getElem?_map,hx];rfl
 ·have:=hcv _ (look2_mem hc)
  simp only[cv1B,Bool.and_eq_true]at this
  exact⟨Option.isSome_iff_exists.1 this.1,slB_spec this.2.1,intB_spec this.2.2⟩
 ·have:=hcv _ (look2_mem hc)
  simp only[cv1B,Bool.and_eq_true]at this
  exact⟨slB_spec this.1,strB_spec this.2.1,intB_spec this.2.2⟩
 ·have:=hty _ (look_mem ht)
  simp only[Bool.and_eq_true,beq_iff_eq]at this
  exact⟨this.1,aggOf_spec this.2.1,szB_spec this.2.2⟩
open Go.RowKit
def dstB (nt:Nat) (o:Oper):Bool:=match o.dst with
 | some d=>d<nt
 | none=>true
def opsB (nt:Nat) (l:List Oper):Bool:=l.all fun o=>operB nt o&&dstB nt o
section
variable {P:Program} {X:Ctx} {nt:Nat} {Q:Exit->Env->Prop} {Z:Env} {G:Nat} {E:World->Prop}
theorem opsB_sound (hF:Facts P) (hE:X.E=E) (hG:X.G=G) {l:List Oper} (hb:opsB nt l=true):(∀o∈l,OpSound P (PCalls P G E) eop X nt o)/\∀o∈l,∀d,o.dst=some d->d<nt:=by
 have h:=List.all_eq_true.1 hb
 refine⟨fun o ho=> ?_,fun o ho d hd=> ?_⟩
 ·have:=h o ho
  simp only[Bool.and_eq_true]at this
  exact eop_sound hF hE hG this.1
 ·have:=h o ho
  simp only[Bool.and_eq_true]at this
  have h2:=this.2
  unfold dstB at h2
  rw[hd]at h2
  simpa using h2
theorem XW.reg {id:Nat} {l:List Oper} (hF:Facts P) (hE:X.E=E) (hG:X.G=G) (hb:opsB nt l=true) (h:∃ft Z',ORun (PCalls P G E) eop l.toArray ft Z Z'/\ft.map (·.1)=List.range' 0 l.length/\Q .normal Z'):XW P X nt (.region id l.toArray false) Z Q:=
 let h2:=opsB_sound hF hE hG hb
 XW.region h2.1 h2.2 h
theorem XW.drw {id:Nat} {l:List Oper} (hF:Facts P) (hE:X.E=E) (hG:X.G=G) (hm:P.follows .mixedOrders=true) (hb:opsB nt l=true) (h:∃ft Z',ORun (PCalls P G E) eop l.toArray ft Z Z'/\ft.map (·.1)=List.range' 0 l.length/\orderOk l.toArray ft=true/\Q .normal Z'):XW P X nt (.region id l.toArray true) Z Q:=
 let h2:=opsB_sound hF hE hG hb
 XW.draw hm eop_looks h2.1 h2.2 h
end
open Go.RowKit
section
variable {P:Program} {X:Ctx} {nt:Nat} {Q:Exit->Env->Prop} {Z:Env} {c:Code} {a:Act} {w:World}
def Gh (X:Ctx) (nt:Nat) (Z Z2:Env):Prop:=∀a w,Good X nt Z a w->Good X nt Z2 a w
theorem XW.gh {Z2:Env} (h:Gh X nt Z Z2) (hq:XW P X nt c Z2 Q):XW P X nt c Z Q:=fun a w hg=>hq a w (h a w hg)
end
open Go.RowKit
section
variable {P:Program} {PC:Con} {eop:Oper->(Nat->PV)->Eff PV} {X:Ctx} {nt:Nat} {Q:Exit->Env->Prop} {Z:Env}
theorem wpOps_run2 {ops:Array Oper} {Q0:Exit->Act->World->Prop} {rest:List Nat} (hop:∀(i:Nat) (o:Oper),ops[i]?=some o->OpSound P PC eop X nt o) (hd:∀(i:Nat) (o':Oper),ops[i]?=some o'->∀d,o'.dst=some d->d<nt) :
  ∀{l:List Ft} {Z Z2:Env} (_:ORun PC eop ops l Z Z2) (_:∀a w,Good X nt Z2 a w->wpOps P ops Q0 rest a w) (a:Act) (w:World),Good X nt Z a w->wpOps P ops Q0 (l.map (·.1)++rest) a w:=by
 intro l Z Z2 h
 induction h with
 | nil=>intro hQ a w hg;exact hQ a w hg
 | cons hi ho ht ih=>
  intro hQ a w hg
  show wpOps P ops Q0 (_::_) a w
  rw[wpOps_cons]
  exact OStep.wpOp hi (hop _ _ hi) hd ho hg fun a' w' hg'=>ih hQ a' w' hg'
theorem nilEq_run (hF:Facts P) {t:TypeId} (h:slK t=some k) (p:Option Addr) (n c:Nat) (w:World):(binOp .eql t (.slice p n c) (.slice none 0 0)).run P w= .ok (.bool p.isNone) w:=by
 have hu:=hF.sl t k h
 have heq:(Op.equal t (.slice p n c) (.slice none 0 0)).run P w= .ok p.isNone w:=by
  show(Op.equalIn (9999+1) t _ _).run P w=_
  unfold Op.equalIn
  cases p<;>simp[run_underlying hu]
 simp[binOp,heq]
theorem XW.regionN (hF:Facts P) {id:Nat} {l:List Oper} {t t':TypeId} (hop:∀o'∈l++ [o],OpSound P PC eop X nt o') (hd:∀o'∈l++ [o],∀d,o'.dst=some d->d<nt) (ho:o.op= .binOp .eql t x (.const (.slice none 0 0)) t') (hgu:o.guard=none) (hdst:o.dst=some d) (hx:opndB nt x=true) (hk:slK t=some k)
  (h:∃ft Z',ORun PC eop (l++ [o]).toArray ft Z Z'/\ft.map (·.1)=List.range' 0 l.length/\∀(S:Nat->Prop) (w:World) J σ u,ValC S w J σ (opd Z'.t x) u->∃p n c,u= .slice p n c/\Q .normal ⟨putE (some d) (.v (.bool p.isNone)) Z'.t,Z'.s⟩):XW P X nt (.region id (l++ [o]).toArray false) Z Q:=fun a w hg=>by
 obtain⟨ft,Z',h1,h2,h3⟩:=h
 refine wp_region ?_
 have hop':∀(i:Nat) (o':Oper),(l++ [o]).toArray[i]?=some o'->OpSound P PC eop X nt o':=fun i o' ho=>hop o' (qM1 (by simpa using ho))
 have hd':∀(i:Nat) (o':Oper),(l++ [o]).toArray[i]?=some o'->∀d,o'.dst=some d->d<nt:=fun i o' ho=>hd o' (qM1 (by simpa using ho))
 have:=wpOps_run2 (Q0:=fun e a' w'=>∃Z',Good X nt Z' a' w'/\Q e Z') (rest:=[l.length]) hop' hd' h1 (fun a w hg=>by
  rw[wpOps_cons]
  have hi:(l++ [o]).toArray[l.length]?=some o:=by simp
  have hg0:=hg
  obtain⟨hs,hdd,J,N,hst⟩:=hg0
  have hv:=hst.opd hs hx
  obtain⟨p,n,c,hu,hq⟩:=h3 _ _ _ _ _ hv
  unfold Go.wpOp
  simp only[hi]
  have hw:wantedP (l++ [o]).toArray o Z'.t=some true:=by unfold wantedP;rw[hgu]
  rw[hg.wanted hd' hw]
  simp only[if_true]
  refine .inl ?_
  have hsound:o.wp P a w (fun a' w'=>Good X nt ⟨putE o.dst (.v (.bool p.isNone)) Z'.t,Z'.s⟩ a' w') (fun e a' w'=>∃Z',Good X nt Z' a' w'/\Q e Z'):=by
   refine sound_val hs hdd hst (u:= .bool p.isNone) ?_ ⟨rfl,trivial⟩
   have hgd:(eqGuard .eql t x (.const (.slice none 0 0)) (.slice p n c) (.slice none 0 0)).run P w= .ok () w:=rfl
   unfold execOp
   have hq':a.eval (.const (.slice none 0 0))= .slice none 0 0:=rfl
   simp only[ho,hu,hq',Sem.run_bind,hgd,Result.andThen_ok,nilEq_run hF hk]
   rfl
  refine Oper.wp_mono ?_ hsound
  intro a' w' hg'
  rw[hdst]at hg'
  exact⟨_,hg',hq⟩) a w hg
 rw[h2]at this
 rw[List.range_eq_range']
 have e:List.range' 0 (l++ [o]).toArray.size=List.range' 0 l.length++ [l.length]:=by
  simp[List.range'_concat]
 rw[e]
 exact this
end
open Go.RowKit
abbrev Rn:=Nat->Option (Option Nat)
inductive Sl0 (ρ:Rn) (σ σ':Sto):PV->PV->Prop
 | dead (p:PV):Sl0 ρ σ σ' p .dead
 | v (x:Value) (lf:Leaf) (h:wfV x->lf= .sc x):Sl0 ρ σ σ' (.v x) (leafPV lf)
 | un:Sl0 ρ σ σ' .un .un
 | nil:Sl0 ρ σ σ' .nil .nil
 | row (k:K) (l:List (ty k)):Sl0 ρ σ σ' (.row false k l) (.row false k l)
 | eptr (k:K) (l:List (ty k)) (i j:Nat):Sl0 ρ σ σ' (.eptr k l i j) (.eptr k l i j)
 | fn (f:FuncId):Sl0 ρ σ σ' (.fn f []) (.fn f [])
 | nilRow (k:K):Sl0 ρ σ σ' .nil (.row false k [])
 | let_ {id ver off n:Nat} {full:Bool} {blk:Blk} {k:K} {l:List (ty k)} (h:σ id=⟨ver,some blk⟩) (hw:IsRw blk k l) (hn:∀i,ρ i≠some (some id)):Sl0 ρ σ σ' (.ref id ver off n full) (.row false k ((l.drop off).take n))
 | letF {id ver off n:Nat} {blk:Blk} {k:K} {l:List (ty k)} (h:σ id=⟨ver,some blk⟩) (hw:IsRw blk k l) (hn:∀i,ρ i≠some (some id)):Sl0 ρ σ σ' (.ref id ver off n true) (.row false k l)
 | refF {id id' ver off n:Nat} {blk:Blk} {k:K} {l:List (ty k)} (h:σ id=⟨ver,some blk⟩) (hw:IsRw blk k l) (hr:ρ id'=some (some id)) (h':σ' id'=⟨0,some blk⟩):Sl0 ρ σ σ' (.ref id ver off n true) (.ref id' 0 0 l.length true)
 | refV {id id' ver off n:Nat} {full:Bool} {blk:Blk} {k:K} {l:List (ty k)} (h:σ id=⟨ver,some blk⟩) (hw:IsRw blk k l) (hr:ρ id'=some (some id)) (h':σ' id'=⟨0,some blk⟩):Sl0 ρ σ σ' (.ref id ver off n full) (.ref id' 0 off n false)
 | nilRef {id':Nat} {blk:Blk} {k:K} (hw:IsRw blk k []) (hr:ρ id'=some none) (h':σ' id'=⟨0,some blk⟩):Sl0 ρ σ σ' .nil (.ref id' 0 0 0 true)
 | ptrb {id id' ver i j:Nat} {cs cs':List PV} (h:σ id=⟨ver,some (.box cs)⟩) (hr:ρ id'=some (some id)) (h':σ' id'=⟨0,some (.box cs')⟩):Sl0 ρ σ σ' (.ptr id ver i j) (.ptr id' 0 i j)
 | ptrr {id id' ver i j:Nat} {blk:Blk} {k:K} {l:List (ty k)} (h:σ id=⟨ver,some blk⟩) (hw:IsRw blk k l) (hr:ρ id'=some (some id)) (h':σ' id'=⟨0,some blk⟩):Sl0 ρ σ σ' (.ptr id ver i j) (.ptr id' 0 i j)
 | ptro {id id' ver i j:Nat} {o:Obj} (h:σ id=⟨ver,some (.objb o)⟩) (hr:ρ id'=some (some id)) (h':σ' id'=⟨0,some (.objb o)⟩):Sl0 ρ σ σ' (.ptr id ver i j) (.ptr id' 0 i j)
def isPtr:PV->Bool
 | .ptr _ _ _ _=>true
 | _=>false
def SlP (ρ:Rn) (σ σ':Sto) (p q:PV):Prop:=Sl0 ρ σ σ' p q/\isPtr p=true/\isPtr q=true
def SlB (ρ:Rn) (σ σ':Sto) (p q:PV):Prop:=Sl0 ρ σ σ' p q∨∃f cs ds,p= .fn f cs/\q= .fn f ds/\All2 (SlP ρ σ σ') cs ds
def Sl1 (ρ:Rn) (σ σ':Sto) (p q:PV):Prop:=SlB ρ σ σ' p q∨∃cs ds,p= .agg cs/\q= .agg ds/\All2 (Sl0 ρ σ σ') cs ds
def SlC (ρ:Rn) (σ σ':Sto) (p q:PV):Prop:=Sl1 ρ σ σ' p q∨(∃cs ds,p= .tup cs/\q= .tup ds/\All2 (Sl1 ρ σ σ') cs ds)∨∃f cs ds,p= .fn f cs/\q= .fn f ds/\All2 (SlP ρ σ σ') cs ds
inductive BlR (ρ:Rn) (σ σ':Sto):Blk->Blk->Prop
 | box {cs ds:List PV} (h:All2 (SlB ρ σ σ') cs ds):BlR ρ σ σ' (.box cs) (.box ds)
 | obj {o:Obj}:BlR ρ σ σ' (.objb o) (.objb o)
 | row {blk:Blk} {k:K} {l:List (ty k)} (hw:IsRw blk k l):BlR ρ σ σ' blk blk
structure Nrm (nx nl:Nat) (ρ:Rn) (Z Z':Env):Prop where
 t:∀i,SlC ρ Z.s Z'.s (Z.t i) (Z'.t i)
 b:∀id v b,Z'.s id=⟨v,some b⟩->v=0/\((∃id0 v0 b0,ρ id=some (some id0)/\Z.s id0=⟨v0,some b0⟩/\BlR ρ Z.s Z'.s b0 b)∨(ρ id=some none/\∃k,IsRw b k []))
 inj:∀i j id,ρ i=some (some id)->ρ j=some (some id)->i=j
 ext:∀j,j<nx->ρ j=some (some j)/\∃cs,(Z'.s j).blk=some (.box cs)
 lnt:∀q,q<nl->ρ (50+q)=some (some (50+q))/\∃b,(Z'.s (50+q)).blk=some b
 big:∀i id,ρ i=some (some id)->i≠id->nx<=i/\nx<=id
section
variable {X:Ctx} {nt:Nat} {Z Z':Env} {w:World} {J:Nat->Option (Nat×Nat)} {N:Nat->List Nat} {tm:Array Value} {ρ:Rn}
def rnB (ρ:Rn) (J:Nat->Option (Nat×Nat)):Nat->Option (Nat×Nat):=fun id=>match ρ id with
 | some (some id0)=>J id0
 | _=>none
def rnN (ρ:Rn) (N:Nat->List Nat):Nat->List Nat:=fun id=>match ρ id with
 | some (some id0)=>N id0
 | _=> []
theorem full_at {blk:Blk} {l:List (ty k)} {id:Nat} (hst:St X Z w tm J N) (h:Z.s id=⟨ver,some blk⟩) (hw:IsRw blk k l) (hv:RefC w J Z.s id ver off n true u):(l=[]/\n=0/\u= .slice none 0 0/\J id=none)∨(off=0/\n=l.length):=by
 obtain⟨_,_,h3⟩:=hv
 obtain⟨h4,h5⟩:=h3 _ k l h hw.row
 rcases h5 with⟨h5,h6⟩ |⟨b,c,o,h5,h6,h7,h8,h9⟩
 ·rcases row_head hw.row (hst.blk id _ (by rw[h]))with⟨_,e,_⟩ |⟨b,cap,cur,q,_⟩
  ·subst e;simp at h4;exact .inl ⟨rfl,h4.2,h6,h5⟩
  ·rw[h5]at q;cases q
 ·obtain⟨e1,e2,_⟩:=h9 rfl;exact .inr ⟨e1,e2⟩
theorem Sl0.val (hst:St X Z w tm J N) (hS:∀b,Fz X w N Z.s b->Fz X w (rnN ρ N) Z'.s b)
  (hlet:∀id ver blk k l,Z.s id=⟨ver,some blk⟩->IsRw blk k l->(∀i,ρ i≠some (some id))->∀b∈N id,Fz X w (rnN ρ N) Z'.s b) {p q:PV} (h:Sl0 ρ Z.s Z'.s p q) {u:Value} (hv:ValS (Fz X w N Z.s) w J Z.s p u):ValS (Fz X w (rnN ρ N) Z'.s) w (rnB ρ J) Z'.s q u:=by
 have up:∀{k:K} {u:Value} {l:List (ty k)},Row (Fz X w N Z.s) w k u l->Row (Fz X w (rnN ρ N) Z'.s) w k u l:=fun h=>h.mono hS fun _ _ _ _ h=>h
 cases h with
 | dead=>trivial
 | v x lf h=>obtain⟨h1,h2⟩:=hv;rw[h h2];exact⟨h1,h2⟩
 | un=>exact hv
 | nil=>exact hv
 | row k l=>exact⟨rfl,up hv.2⟩
 | eptr k l i j=>obtain⟨b,off,h1,h2,h3⟩:=hv;exact⟨b,off,h1,h2,up h3⟩
 | fn f=>
  obtain⟨us,h1,h2⟩:=hv
  exact⟨us,h1,by cases hu:us.toList with
   | nil=>trivial
   | cons x xs=>rw[hu]at h2;exact h2.elim⟩
 | nilRow k=>have e:u= .slice none 0 0:=hv;subst e;exact⟨rfl,Row.nil⟩
 | let_ h hw hn=>exact⟨rfl,RefC.view hst hv h hw hS (hlet _ _ _ _ _ h hw hn)⟩
 | letF h hw hn=>
  rename_i id ver off n blk k l
  rcases full_at hst h hw hv with⟨rfl,rfl,rfl,_⟩ |⟨rfl,rfl⟩
  ·exact⟨rfl,Row.nil⟩
  ·refine⟨rfl,?_⟩
   have:=RefC.view hst hv h hw hS (hlet _ _ _ _ _ h hw hn)
   rwa[List.drop_zero,List.take_length]at this
 | refF h hw hr h'=>
  rename_i id id' ver off n blk k l
  have hv':=hv
  obtain⟨h1,h2,h3⟩:=hv
  refine⟨Nat.zero_le _,h2,fun b2 k2 l2 e hr2=> ?_⟩
  rw[h']at e;cases e
  cases hw.row.same hr2
  have:=h3 _ _ _ h hw.row
  have e2:rnB ρ J id'=J id:=by simp only[rnB,hr]
  rw[e2]
  rcases full_at hst h hw hv' with⟨rfl,rfl,rfl,hb⟩ |⟨rfl,rfl⟩
  ·exact⟨by simp,.inl ⟨hb,rfl⟩⟩
  ·exact this
 | refV h hw hr h'=>
  rename_i id id' ver off n full blk k l
  obtain⟨h1,h2,h3⟩:=hv
  refine⟨Nat.zero_le _,h2,fun b2 k2 l2 e hr2=> ?_⟩
  rw[h']at e;cases e
  cases hw.row.same hr2
  obtain⟨h4,h5⟩:=h3 _ _ _ h hw.row
  have e2:rnB ρ J id'=J id:=by simp only[rnB,hr]
  rw[e2]
  refine⟨h4,h5.imp (fun h=>h) ?_⟩
  rintro⟨b,c,o,q1,q2,q3,q4,q5⟩
  exact⟨b,c,o,q1,q2,q3,(fun hz=>q4 (hz.imp (fun h=>h) (fun h=>nomatch h))),(fun hz=>nomatch hz)⟩
 | nilRef hw hr h'=>
  have e:u= .slice none 0 0:=hv
  subst e
  refine⟨Nat.zero_le _,⟨_,_,_,rfl⟩,fun b2 k2 l2 e hr2=> ?_⟩
  rw[h']at e;cases e
  cases hw.row.same hr2
  exact⟨by simp,.inl ⟨by simp[rnB,hr],rfl⟩⟩
 | ptrb h hr h'=>
  obtain⟨h1,h2,h3⟩:=hv
  refine⟨Nat.zero_le _,h2,fun blk e=> ?_⟩
  rw[h']at e;cases e
  have:=h3 _ h
  simp only[rnB,hr]
  exact this
 | ptrr h hw hr h'=>
  obtain⟨h1,h2,h3⟩:=hv
  refine⟨Nat.zero_le _,h2,fun blk e=> ?_⟩
  rw[h']at e;cases e
  have:=h3 _ h
  simp only[rnB,hr]
  exact this
 | ptro h hr h'=>
  obtain⟨h1,h2,h3⟩:=hv
  refine⟨Nat.zero_le _,h2,fun blk e=> ?_⟩
  rw[h']at e;cases e
  have:=h3 _ h
  simp only[rnB,hr]
  exact this
theorem Sl0.noAgg {σ':Sto} (h:Sl0 ρ σ σ' p q):(∀cs,q≠ .tup cs)/\(∀cs,q≠ .agg cs)/\(q= .dead∨(∀cs,p≠ .tup cs)/\(∀cs,p≠ .agg cs)):=by
 cases h with
 | v x lf h=>exact⟨(fun cs e=>by cases lf<;>cases e),(fun cs e=>by cases lf<;>cases e),.inr ⟨(fun _ e=>nomatch e),(fun _ e=>nomatch e)⟩⟩
 | _=>refine⟨(fun _ e=>nomatch e),(fun _ e=>nomatch e),?_⟩ <;>first|exact .inl rfl|exact .inr ⟨(fun _ e=>nomatch e),(fun _ e=>nomatch e)⟩
theorem val1_S (hp:∀cs,p≠ .agg cs) (h:Val1 S w J σ p u):ValS S w J σ p u:=by
 cases p<;>first|exact h|exact absurd rfl (hp _)
theorem valS_1 (hp:∀cs,p≠ .agg cs) (h:ValS S w J σ p u):Val1 S w J σ p u:=by
 cases p<;>first|exact h|exact absurd rfl (hp _)
theorem valC_1 (hp:∀cs,p≠ .tup cs) (h:ValC S w J σ p u):Val1 S w J σ p u:=by
 cases p<;>first|exact h|exact absurd rfl (hp _)
theorem val1_C (hp:∀cs,p≠ .tup cs) (h:Val1 S w J σ p u):ValC S w J σ p u:=by
 cases p<;>first|exact h|exact absurd rfl (hp _)
theorem All2.imp2 {α J γ:Type} {R:α->J->Prop} {T:α->γ->Prop} {U:J->γ->Prop} (h:∀a b c,R a b->T a c->U b c):∀{as:List α} {bs:List J} {cs:List γ},All2 R as bs->All2 T as cs->All2 U bs cs
 | [],[],[],_,_=>trivial
 | _::_,_::_,_::_,⟨h1,h2⟩,⟨h3,h4⟩=>⟨h _ _ _ h1 h3,All2.imp2 h h2 h4⟩
 | [],[],_::_,_,h=>h.elim
 | _::_,_::_,[],_,h=>h.elim
theorem SlB.val (hst:St X Z w tm J N) (hS:∀b,Fz X w N Z.s b->Fz X w (rnN ρ N) Z'.s b)
  (hlet:∀id ver blk k l,Z.s id=⟨ver,some blk⟩->IsRw blk k l->(∀i,ρ i≠some (some id))->∀b∈N id,Fz X w (rnN ρ N) Z'.s b) {p q:PV} (h:SlB ρ Z.s Z'.s p q) {u:Value} (hv:ValS (Fz X w N Z.s) w J Z.s p u):ValS (Fz X w (rnN ρ N) Z'.s) w (rnB ρ J) Z'.s q u:=by
 rcases h with h|⟨f,cs,ds,rfl,rfl,h⟩
 ·exact h.val hst hS hlet hv
 ·obtain⟨us,e,hv⟩:=hv
  refine⟨us,e,All2.imp2 (fun a b c h1 h2=> ?_) h hv⟩
  obtain⟨h1,h3,h4⟩:=h1
  cases a<;>first|(cases h3;done)|(cases b<;>first|(cases h4;done)|exact Sl0.val hst hS hlet h1 h2)
theorem SlB.noAgg {σ σ':Sto} {p q:PV} (h:SlB ρ σ σ' p q):(∀cs,q≠ .tup cs)/\(∀cs,q≠ .agg cs)/\(q= .dead∨(∀cs,p≠ .tup cs)/\(∀cs,p≠ .agg cs)):=by
 rcases h with h|⟨f,cs,ds,rfl,rfl,h⟩
 ·exact h.noAgg
 ·exact⟨(fun _ e=>nomatch e),(fun _ e=>nomatch e),.inr ⟨(fun _ e=>nomatch e),(fun _ e=>nomatch e)⟩⟩
theorem Sl1.val (hst:St X Z w tm J N) (hS:∀b,Fz X w N Z.s b->Fz X w (rnN ρ N) Z'.s b)
  (hlet:∀id ver blk k l,Z.s id=⟨ver,some blk⟩->IsRw blk k l->(∀i,ρ i≠some (some id))->∀b∈N id,Fz X w (rnN ρ N) Z'.s b) {p q:PV} (h:Sl1 ρ Z.s Z'.s p q) {u:Value} (hv:Val1 (Fz X w N Z.s) w J Z.s p u):Val1 (Fz X w (rnN ρ N) Z'.s) w (rnB ρ J) Z'.s q u:=by
 rcases h with h|⟨cs,ds,rfl,rfl,h⟩
 ·obtain⟨h1,h2,h3⟩:=h.noAgg
  rcases h3 with rfl|h3
  ·trivial
  ·exact valS_1 h2 (h.val hst hS hlet (val1_S h3.2 hv))
 ·obtain⟨us,rfl,hv⟩:=hv
  exact⟨us,rfl,All2.imp2 (fun a b c h1 h2=>h1.val hst hS hlet h2) h hv⟩
theorem SlC.val (hst:St X Z w tm J N) (hS:∀b,Fz X w N Z.s b->Fz X w (rnN ρ N) Z'.s b)
  (hlet:∀id ver blk k l,Z.s id=⟨ver,some blk⟩->IsRw blk k l->(∀i,ρ i≠some (some id))->∀b∈N id,Fz X w (rnN ρ N) Z'.s b) {p q:PV} (h:SlC ρ Z.s Z'.s p q) {u:Value} (hv:ValC (Fz X w N Z.s) w J Z.s p u):ValC (Fz X w (rnN ρ N) Z'.s) w (rnB ρ J) Z'.s q u:=by
 rcases h with h|⟨cs,ds,rfl,rfl,h⟩ |⟨f,cs,ds,rfl,rfl,h⟩
 ·have hq:∀cs,q≠ .tup cs:=by
   rcases h with h|⟨_,_,_,rfl,_⟩
   ·exact h.noAgg.1
   ·exact fun _ e=>nomatch e
  by_cases hd:q= .dead
  ·subst hd;trivial
  ·have hp:∀cs,p≠ .tup cs:=by
    rcases h with h|⟨_,_,rfl,_,_⟩
    ·rcases h.noAgg.2.2 with h|h
     ·exact absurd h hd
     ·exact h.1
    ·exact fun _ e=>nomatch e
   exact val1_C hq (h.val hst hS hlet (valC_1 hp hv))
 ·obtain⟨us,rfl,hv⟩:=hv
  exact⟨us,rfl,All2.imp2 (fun a b c h1 h2=>h1.val hst hS hlet h2) h hv⟩
 ·obtain⟨us,e,hv⟩:=hv
  refine⟨us,e,All2.imp2 (fun a b c h1 h2=> ?_) h hv⟩
  obtain⟨h1,h3,h4⟩:=h1
  cases a<;>first|(cases h3;done)|(cases b<;>first|(cases h4;done)|exact Sl0.val hst hS hlet h1 h2)
theorem Nrm.gh {nl:Nat} (hX:X.ext.length=nx) (hL:∀q u n,X.rx q=some (u,n)->q<nl) (h:Nrm nx nl ρ Z Z'):Gh X nt Z Z':=fun a w hg=>by
 obtain⟨hs,hd,J,N,hst⟩:=hg
 have occ:∀b,Occ (rnN ρ N) Z'.s b->Occ N Z.s b:=by
  rintro b ⟨id,blk,h1,h2⟩
  cases he:Z'.s id with
  | mk v b0=>
   rw[he]at h1
   obtain⟨rfl,h3⟩:=h.b id v blk (by rw[he];exact congrArg _ h1)
   rcases h3 with⟨id0,v0,b0,h4,h5,h6⟩ |⟨h4,k,h5⟩
   ·simp only[rnN,h4]at h2
    exact⟨id0,b0,by rw[h5],h2⟩
   ·simp[rnN,h4]at h2
 have hS:∀b,Fz X w N Z.s b->Fz X w (rnN ρ N) Z'.s b:=fun b hb=>⟨hb.1,fun ho=>hb.2.1 (occ b ho),hb.2.2⟩
 have hlet:∀id ver blk k l,Z.s id=⟨ver,some blk⟩->IsRw blk k l->(∀i,ρ i≠some (some id))->∀b∈N id,Fz X w (rnN ρ N) Z'.s b:=by
  intro id ver blk0 k l he hw hn b hb
  have hbk:(Z.s id).blk=some blk0:=by rw[he]
  refine⟨hst.lt id _ hbk b hb,?_,.inr (hst.new id _ hbk b hb)⟩
  rintro⟨i,blk,h1,h2⟩
  cases he':Z'.s i with
  | mk v b0=>
   rw[he']at h1
   obtain⟨rfl,h3⟩:=h.b i v blk (by rw[he'];exact congrArg _ h1)
   rcases h3 with⟨id0,v0,b0,h4,h5,h6⟩ |⟨h4,k,h5⟩
   ·simp only[rnN,h4]at h2
    have hne:id0≠id:=fun e=>hn i (by rw[h4,e])
    exact hst.disj id0 id _ _ (by rw[h5]) hbk hne b h2 hb
   ·simp[rnN,h4]at h2
 have old:∀id b,(Z'.s id).blk=some b->(∃id0 v0 b0,ρ id=some (some id0)/\Z.s id0=⟨v0,some b0⟩/\BlR ρ Z.s Z'.s b0 b)∨(ρ id=some none/\∃k,IsRw b k []):=by
  intro id b hb
  cases he:Z'.s id with
  | mk v b0=>rw[he]at hb;exact(h.b id v b (by rw[he];exact congrArg _ hb)).2
 refine⟨hs,hd,rnB ρ J,rnN ρ N,⟨fun t u hu=>(h.t t).val hst hS hlet (hst.tmp t u hu),fun id b hb=> ?_,fun id b hb x hx=> ?_,fun id b hb=> ?_,fun id id' b b' hb hb' hne x hx hx'=> ?_,fun id b hb x hx=> ?_,fun j p hj=> ?_,fun q u n hq=> ?_,hst.frm,hst.env,fun b hb=>hb⟩⟩
 ·rcases old id b hb with⟨id0,v0,b0,h1,h2,h3⟩ |⟨h1,k,hw0⟩
  ·have hbk:=hst.blk id0 b0 (by rw[h2])
   have e1:rnB ρ J id=J id0:=by simp[rnB,h1]
   have e2:rnN ρ N id=N id0:=by simp[rnN,h1]
   rw[e2]
   cases h3 with
   | box hall=>
    obtain⟨bb,off,cur,E,q1,q2,q3,q4,q5⟩:=hbk
    refine⟨bb,off,cur,E,e1.trans q1,q2,q3,by rw[<-hall.len];exact q4,fun j p hp=> ?_⟩
    have hj:j<_:=(qS1.1 hp).1
    rw[<-hall.len]at hj
    obtain⟨p',hp',hsl⟩:=hall.get j _ (qE1 hj)
    rw[hp]at hp';cases hp'
    obtain⟨u,hu,h1c,hv⟩:=q5 j _ (qE1 hj)
    exact⟨u,hu,h1c,hsl.val hst hS hlet hv⟩
   | obj=>
    obtain⟨bb,q1,q2,q3⟩:=hbk
    exact⟨bb,e1.trans q1,q2,q3⟩
   | row hw=>
    cases hw with
    | b=>
     rcases hbk with⟨q1,q2,q3⟩ |⟨bb,cap,cur,q1,q2,q3⟩
     ·exact .inl ⟨e1.trans q1,q2,q3⟩
     ·exact .inr ⟨bb,cap,cur,e1.trans q1,q2,q3.mono rfl hS fun _ _ _ _ h=>h⟩
    | d=>
     rcases hbk with⟨q1,q2,q3⟩ |⟨bb,cap,cur,L,q1,q2,q3⟩
     ·exact .inl ⟨e1.trans q1,q2,q3⟩
     ·exact .inr ⟨bb,cap,cur,L,e1.trans q1,q2,q3⟩
  ·cases hw0 with
   | b=>exact .inl ⟨by simp[rnB,h1],rfl,by simp[rnN,h1]⟩
   | d=>exact .inl ⟨by simp[rnB,h1],rfl,by simp[rnN,h1]⟩
 ·rcases old id b hb with⟨id0,v0,b0,h1,h2,h3⟩ |⟨h1,k,hw0⟩
  ·simp only[rnN,h1]at hx;exact hst.lt id0 b0 (by rw[h2]) x hx
  ·simp[rnN,h1]at hx
 ·rcases old id b hb with⟨id0,v0,b0,h1,h2,h3⟩ |⟨h1,k,hw0⟩
  ·simp only[rnN,h1];exact hst.nodup id0 b0 (by rw[h2])
  ·simp[rnN,h1]
 ·rcases old id b hb with⟨id0,v0,b0,h1,h2,h3⟩ |⟨h1,k,hw0⟩
  ·rcases old id' b' hb' with⟨id0',v0',b0',h1',h2',h3'⟩ |⟨h1',k',hw0'⟩
   ·simp only[rnN,h1]at hx
    simp only[rnN,h1']at hx'
    exact hst.disj id0 id0' b0 b0' (by rw[h2]) (by rw[h2']) (fun e=>hne (h.inj id id' id0 h1 (by rw[h1',e]))) x hx hx'
   ·simp[rnN,h1']at hx'
  ·simp[rnN,h1]at hx
 ·rcases old id b hb with⟨id0,v0,b0,h1,h2,h3⟩ |⟨h1,k,hw0⟩
  ·simp only[rnN,h1]at hx;exact hst.new id0 b0 (by rw[h2]) x hx
  ·simp[rnN,h1]at hx
 ·have hjn:j<nx:=by rw[<-hX];exact(qS1.1 hj).1
  obtain⟨h1,cs,h2⟩:=h.ext j hjn
  obtain⟨q1,cs0,q2,q3⟩:=hst.ext j p hj
  refine⟨by simp[rnB,h1,q1],cs,h2,?_⟩
  rcases old j _ h2 with⟨id0,v0,b0,e1,e2,e3⟩ |⟨e1,k,e2⟩
  ·rw[h1]at e1;cases e1
   have:(Z.s j).blk=some b0:=by rw[e2]
   rw[q2]at this;cases this
   cases e3 with
   | box hall=>rw[q3,hall.len]
   | row hw=>cases hw
  ·cases e2
 ·obtain⟨h1,blk,k,l,h2,h3,h4,h5⟩:=hst.rxt q u n hq
  obtain⟨g1,b',g2⟩:=h.lnt q (hL q u n hq)
  have he:Z'.s (50+q)=⟨0,some b'⟩:=by
   cases he:Z'.s (50+q)with
   | mk v b0=>
    rw[he]at g2
    have g2:b0=some b':=g2
    subst g2
    rw[(h.b _ _ _ he).1]
  rcases(h.b _ _ _ he).2 with⟨id0,v0,b0,e1,e2,e3⟩ |⟨e1,_⟩
  ·rw[g1]at e1;cases e1
   rw[h2]at e2;cases e2
   cases e3 with
   | box=>cases h3
   | obj=>cases h3
   | row hw=>
    have hw':=hw
    cases hw.row.same h3
    have hv:ValS (Fz X w (rnN ρ N) Z'.s) w (rnB ρ J) Z'.s (.ref (50+q) 0 0 _ true) u:=Sl0.val hst hS hlet (.refF h2 hw g1 he) (u:=u) (p:= .ref (50+q) 0 0 n true) h5
    exact⟨h1,_,k,l,he,h3,h4,by rw[<-h4];exact hv⟩
  ·rw[g1]at e1;cases e1
end
open Go.RowKit
inductive Sh where
 | I (k:IntKind)|S|B
 | row (k:K)|st (k:K) (refs:List (Nat×Nat))
 | own (k:K) (id:Nat)|view (id:Nat)|ptri (id j:Nat)|eptr (k:K) (j:Nat)
 | cfn (f:FuncId) (caps:List (Nat×Nat))
abbrev Sh.V:Sh->Type
 | .I _=>Int| .S=>ByteArray| .B=>Bool
 | .row k=>List (ty k)| .st k _=>ty k
 | .own k _=>List (ty k)| .view _=>Nat×Nat| .ptri _ _=>Nat| .eptr k _=>List (ty k)×Nat
 | .cfn _ _=>Unit
inductive U where
 | nil|un|nptr|fn (f:FuncId) (caps:List (Nat×Nat))|ref (id:Nat)|ptr (id j:Nat)
inductive En where
 | sl (t:Nat) (sh:Sh)|tup (t:Nat) (l:List Sh)
 | bxl (id:Nat) (l:List Sh)|sto (id:Nat) (k:K) (refs:List (Nat×Nat))|rw(id:Nat) (k:K)
 | ob (id:Nat)
abbrev PL:List Sh->Type
 | []=>Unit
 | [a]=>a.V
 | a::b::l=>a.V×PL (b::l)
abbrev En.V:En->Type
 | .sl _ sh=>sh.V| .tup _ l=>PL l| .bxl _ l=>PL l| .sto _ k _=>ty k| .rw _ k=>List (ty k)
 | .ob _=>Obj
abbrev EL:List En->Type
 | []=>Unit
 | [a]=>a.V
 | a::b::l=>a.V×EL (b::l)
structure Shape where
 us:List (Nat×U)
 es:List En
def dpI (id:Nat) (k:K):Bool:=match Nat.ble 1000000000 id with
 | true=>true
 | false=>Nat.ble id 98&& !flat k
def rowK (d:Bool) (k:K) (l:List (ty k)):Blk:=match d with
 | true=> .rowd k l
 | false=> .rowb k l
def rowAs (d:Bool) (k:K):Blk->Option (List (ty k))
 | .rowb _ l=>(match d with
  | false=>castL k l
  | true=>none)
 | .rowd _ l=>(match d with
  | true=>castL k l
  | false=>none)
 | _=>none
def rowOf:Blk->Option (Bool×(k:K)×List (ty k))
 | .rowb k l=>some (false,⟨k,l⟩)
 | .rowd k l=>some (true,⟨k,l⟩)
 | _=>none
def nxB (m:Nat):Nat:=match Nat.ble 100 m with
 | true=>0
 | false=>m
def nxL (m:Nat):Nat:=m-100
def stoP (refs:List (Nat×Nat)):Nat->List Leaf->List PV
 | _,[]=> []
 | j,lf::l=>(match look j refs,lf with
  | some id,.nest _ x=> .ref id 0 0 x.length true
  | _,lf=>leafPV lf)::stoP refs (j+1) l
def stoB (refs:List (Nat×Nat)):Nat->List Leaf->List (Nat×Blk)
 | _,[]=> []
 | j,lf::l=>match look j refs,lf with
  | some id,.nest k x=>(id,rowK (dpI id k) k x)::stoB refs (j+1) l
  | _,_=>stoB refs (j+1) l
def capsP:List (Nat×Nat)->List PV
 | []=> []
 | (id,j)::l=> .ptr id 0 0 j::capsP l
def Sh.enc:(sh:Sh)->sh.V->PV
 | .I k,(n:Int)=> .v (.int k n)
 | .S,(x:ByteArray)=> .v (.string x)
 | .B,(x:Bool)=> .v (.bool x)
 | .row k,l=> .row false k l
 | .st k refs,x=> .agg (stoP refs 0 (leaves (k:=k) x))
 | .own k id,l=> .ref id 0 0 (List.length l) true
 | .view id,x=> .ref id 0 (Prod.fst x) (Prod.snd x) false
 | .ptri id j,i=> .ptr id 0 i j
 | .eptr k j,x=> .eptr k (Prod.fst x) (Prod.snd x) j
 | .cfn f caps,_=> .fn f (capsP caps)
def Sh.bl:(sh:Sh)->sh.V->List (Nat×Blk)
 | .own k id,l=> [(id,rowK (dpI id k) k l)]
 | .st k refs,x=>stoB refs 0 (leaves (k:=k) x)
 | _,_=> []
def plEnc:(l:List Sh)->PL l->List PV
 | [],_=> []
 | [a],v=> [a.enc v]
 | a::b::l,v=>a.enc v.1::plEnc (b::l) v.2
def plBl:(l:List Sh)->PL l->List (Nat×Blk)
 | [],_=> []
 | [a],v=>a.bl v
 | a::b::l,v=>a.bl v.1++plBl (b::l) v.2
def En.tm:(e:En)->e.V->List (Nat×PV)
 | .sl t sh,x=> [(t,sh.enc x)]
 | .tup t l,x=> [(t,.tup (plEnc l x))]
 | _,_=> []
def En.bl:(e:En)->e.V->List (Nat×Blk)
 | .sl _ sh,x=>sh.bl x
 | .tup _ l,x=>plBl l x
 | .bxl id l,x=>(id,.box (plEnc l x))::plBl l x
 | .sto id k refs,x=>(id,.box (stoP refs 0 (leaves (k:=k) x)))::stoB refs 0 (leaves (k:=k) x)
 | .rw id k,l=> [(id,rowK (dpI id k) k l)]
 | .ob id,o=> [(id,.objb o)]
def elTm:(es:List En)->EL es->List (Nat×PV)
 | [],_=> []
 | [a],v=>a.tm v
 | a::b::l,v=>a.tm v.1++elTm (b::l) v.2
def elBl:(es:List En)->EL es->List (Nat×Blk)
 | [],_=> []
 | [a],v=>a.bl v
 | a::b::l,v=>a.bl v.1++elBl (b::l) v.2
def stoOf (bl:List (Nat×Blk)):Sto:=fun id=>match look id bl with
 | some b=>⟨0,some b⟩
 | none=>⟨0,none⟩
def U.pv (σ:Sto):U->PV
 | .nil=> .nil
 | .un=> .un
 | .nptr=> .v (.pointer none)
 | .fn f caps=> .fn f (capsP caps)
 | .ref id=>match σ id with
  | ⟨_,some (.rowb _ l)⟩=> .ref id 0 0 l.length true
  | ⟨_,some (.rowd _ l)⟩=> .ref id 0 0 l.length true
  | _=> .dead
 | .ptr id j=> .ptr id 0 0 j
def usTm (σ:Sto):List (Nat×U)->List (Nat×PV)
 | []=> []
 | (t,u)::l=>(t,u.pv σ)::usTm σ l
def tmOf (tm:List (Nat×PV)):Nat->PV:=fun t=>match look t tm with
 | some p=>p
 | none=> .dead
def Shape.enc (sh:Shape) (v:EL sh.es):Env:=
 ⟨tmOf (usTm (stoOf (elBl sh.es v)) sh.us++elTm sh.es v),stoOf (elBl sh.es v)⟩
abbrev Rl:=List (Nat×Option Nat)
def srcP:PV->Option Nat
 | .ref id _ _ _ _=>some id
 | _=>none
def stoSrc (refs:List (Nat×Nat)):Nat->List PV->Rl
 | _,[]=> []
 | j,p::ps=>match look j refs with
  | some id=>(id,srcP p)::stoSrc refs (j+1) ps
  | none=>stoSrc refs (j+1) ps
def Sh.src:Sh->PV->Rl
 | .own _ id,p=> [(id,srcP p)]
 | .st _ refs,.agg cs=>stoSrc refs 0 cs
 | _,_=> []
def plSrc:List Sh->List PV->Rl
 | a::l,p::ps=>a.src p++plSrc l ps
 | _,_=> []
def boxC (Z:Env) (id:Nat):List PV:=match Z.s id with
 | ⟨_,some (.box cs)⟩=>cs
 | _=> []
def tupC:PV->List PV
 | .tup vs=>vs
 | _=> []
def En.src (Z:Env):En->Rl
 | .sl t sh=>sh.src (Z.t t)
 | .tup t l=>plSrc l (tupC (Z.t t))
 | .bxl id l=>(id,some id)::plSrc l (boxC Z id)
 | .sto id k refs=>(id,some id)::stoSrc refs 0 (boxC Z id)
 | .rw id k=> [(id,some id)]
 | .ob id=> [(id,some id)]
def Shape.src (sh:Shape) (Z:Env):Rl:=sh.es.flatMap (En.src Z)
def eqN:Option (Option Nat)->Nat->Bool
 | some (some a),b=>Nat.beq a b
 | _,_=>false
def liveB (σ:Sto) (id ver:Nat):Option Blk:=match σ id with
 | ⟨v,some b⟩=>match Nat.beq v ver with
  | true=>some b
  | false=>none
 | _=>none
def hasSrc (id:Nat):Rl->Bool
 | []=>false
 | (_,some i)::l=>match Nat.beq i id with
  | true=>true
  | false=>hasSrc id l
 | (_,none)::l=>hasSrc id l
def letD (σ:Sto) (ρ:Rl) (id ver off n:Nat) (full:Bool):Option LeafI:=match liveB σ id ver,hasSrc id ρ with
 | some (.rowb k l),false=>some (.nest k (viewL full l off n))
 | some (.rowd k l),false=>some (.nest k (viewL full l off n))
 | _,_=>none
def leafD (σ:Sto) (ρ:Rl):PV->Option LeafI
 | .v x=>some (.sc x)
 | .nil=>some .nl
 | .row false k l=>some (.nest k l)
 | .ref id ver off n full=>letD σ ρ id ver off n full
 | _=>none
def stoL (σ:Sto) (ρ:Rl) (refs:List (Nat×Nat)):Nat->List PV->Option (List LeafI)
 | _,[]=>some []
 | j,p::ps=>match(match look j refs with
   | some id=>(match p with
    | .nil=>(match look id ρ with
     | some none=>some LeafI.nl
     | _=>none)
    | .ref id0 ver off n true=>(match eqN (look id ρ) id0,liveB σ id0 ver with
     | true,some b=>(match rowOf b with
      | some (d,⟨k,l⟩)=>(match d==dpI id k with
       | true=>some (LeafI.nest k l)
       | false=>none)
      | none=>none)
     | _,_=>none)
    | _=>none)
   | none=>leafD σ ρ p),stoL σ ρ refs (j+1) ps with
  | some a,some l=>some (a::l)
  | _,_=>none
def capsOk (σ:Sto) (ρ:Rl):List (Nat×Nat)->List PV->Bool
 | [],[]=>true
 | (id, j) :: l, .ptr id0 ver i j' :: ps => Nat.beq i 0 && (Nat.beq j' j && (eqN (look id ρ) id0 && ((match liveB σ id0 ver with
  | some (.box _) => true
  | _ => false) && capsOk σ ρ l ps)))
 | _,_=>false
def Sh.dec (σ:Sto) (ρ:Rl):(sh:Sh)->PV->Option sh.V
 | .I k,.v (.int k' n)=>if k'=k then some n else none
 | .S,.v (.string x)=>some x
 | .B,.v (.bool x)=>some x
 | .row k,p=>match leafD σ ρ p with
  | some x=>x.list k
  | none=>none
 | .st k refs,.agg cs=>match stoL σ ρ refs 0 cs with
  | some l=>ofLeaves k l
  | none=>none
 | .own k id,.nil=>match look id ρ with
  | some none=>some []
  | _=>none
 | .own k id,.ref id0 ver off n true=>match eqN (look id ρ) id0,liveB σ id0 ver with
  | true,some b=>rowAs (dpI id k) k b
  | _,_=>none
 | .view id,.ref id0 ver off n _=>match eqN (look id ρ) id0,liveB σ id0 ver with
  | true,some (.rowb _ _)=>some (off,n)
  | true,some (.rowd _ _)=>some (off,n)
  | _,_=>none
 | .ptri id j,.ptr id0 ver i j'=>match Nat.beq j' j,eqN (look id ρ) id0,liveB σ id0 ver with
  | true,true,some (.box _)=>some i
  | true,true,some (.rowb _ _)=>some i
  | true,true,some (.rowd _ _)=>some i
  | _,_,_=>none
 | .eptr k j,.eptr _ l i j'=>match Nat.beq j' j,castL k l with
  | true,some l=>some (l,i)
  | _,_=>none
 | .cfn f caps,.fn f' ps=>match Nat.beq f f'&&capsOk σ ρ caps ps with
  | true=>some ()
  | false=>none
 | _,_=>none
def plDec (σ:Sto) (ρ:Rl):(l:List Sh)->List PV->Option (PL l)
 | [],[]=>some ()
 | [a],[p]=>a.dec σ ρ p
 | a::b::l,p::ps=>match a.dec σ ρ p,plDec σ ρ (b::l) ps with
  | some x,some y=>some (x,y)
  | _,_=>none
 | _,_=>none
def En.dec (Z:Env) (ρ:Rl):(e:En)->Option e.V
 | .sl t sh=>sh.dec Z.s ρ (Z.t t)
 | .tup t l=>match Z.t t with
  | .tup vs=>plDec Z.s ρ l vs
  | _=>none
 | .bxl id l=>match Z.s id with
  | ⟨_,some (.box cs)⟩=>plDec Z.s ρ l cs
  | _=>none
 | .sto id k refs=>match Z.s id with
  | ⟨_,some (.box cs)⟩=>(match stoL Z.s ρ refs 0 cs with
   | some l=>ofLeaves k l
   | none=>none)
  | _=>none
 | .rw id k=>match Z.s id with
  | ⟨_,some b⟩=>rowAs (dpI id k) k b
  | _=>none
 | .ob id=>match Z.s id with
  | ⟨_,some (.objb o)⟩=>some o
  | _=>none
def elDec (Z:Env) (ρ:Rl):(es:List En)->Option (EL es)
 | []=>some ()
 | [a]=>a.dec Z ρ
 | a::b::l=>match a.dec Z ρ,elDec Z ρ (b::l)with
  | some x,some y=>some (x,y)
  | _,_=>none
def U.ok (σ:Sto) (ρ:Rl):U->PV->Bool
 | .nil,.nil=>true
 | .un,.un=>true
 | .nptr,.v (.pointer none)=>true
 | .fn f caps,.fn f' ps=>Nat.beq f f'&&capsOk σ ρ caps ps
 | .ref id,.ref id0 ver off n true=>match eqN (look id ρ) id0,liveB σ id0 ver with
  | true,some (.rowb _ _)=>true
  | true,some (.rowd _ _)=>true
  | _,_=>false
 | .ptr id j,.ptr id0 ver i j'=>Nat.beq i 0&&(Nat.beq j' j&&(eqN (look id ρ) id0&&(match liveB σ id0 ver with
  | some (.box _)=>true
  | some (.rowb _ _)=>true
  | some (.rowd _ _)=>true
  | some (.objb _)=>true
  | _=>false)))
 | _,_=>false
def usOk (Z:Env) (ρ:Rl):List (Nat×U)->Bool
 | []=>true
 | (t,u)::l=>u.ok Z.s ρ (Z.t t)&&usOk Z ρ l
def srcsL:Rl->List Nat
 | []=> []
 | (_,some i)::l=>i::srcsL l
 | (_,none)::l=>srcsL l
def nodN:List Nat->Bool
 | []=>true
 | x::l=> !(l.any fun y=>Nat.beq y x)&&nodN l
def bigB (nx:Nat):Rl->Bool
 | []=>true
 | (i,some j)::l=>(Nat.beq i j||(Nat.ble nx i&&Nat.ble nx j))&&bigB nx l
 | (_,none)::l=>bigB nx l
def isBoxE (bl:List (Nat×Blk)) (j:Nat):Bool:=match look j bl with
 | some (.box _)=>true
 | _=>false
def hasE' (bl:List (Nat×Blk)) (j:Nat):Bool:=match look j bl with
 | some _=>true
 | none=>false
def extB' (nx:Nat) (ρ:Rl) (bl:List (Nat×Blk)):Bool:=((List.range (nxB nx)).all fun j=>eqN (look j ρ) j&&isBoxE bl j)&&((List.range (nxL nx)).all fun q=>eqN (look (50+q) ρ) (50+q)&&hasE' bl (50+q))
def En.okB:En->Bool
 | .bxl _ l=>l.all fun s=>match s with
  | .st _ _=>false
  | _=>true
 | _=>true
def unfS (s:Sto) (id:Nat):Sto:=match s id with
 | ⟨ver,some (.rowx k l i cs)⟩=>(match closeX s k cs with
  | some (y,A)=>upd (dropS A s) id ⟨ver,some (.rowd k (l.set i y))⟩
  | none=>s)
 | _=>s
def unfSL:List Nat->Sto->Sto
 | [],s=>s
 | id::l,s=>unfSL l (unfS s id)
def unfEnv (ids:List Nat) (Z:Env):Env:=⟨Z.t,unfSL ids Z.s⟩
def Shape.dec (nx:Nat) (sh:Shape) (Z0:Env):Option (EL sh.es):=
 let Z:=unfEnv (srcsL (sh.src Z0)) Z0
 match elDec Z (sh.src Z) sh.es with
 | none=>none
 | some v=>match sh.es.all En.okB&&(nodN ((sh.src Z).map (·.1))&&(nodN (srcsL (sh.src Z))&&(nodN ((elBl sh.es v).map (·.1))&&(bigB (nxB nx) (sh.src Z)&&(extB' nx (sh.src Z) (elBl sh.es v)&&usOk Z (sh.src Z) sh.us)))))with
  | true=>some v
  | false=>none
open Go.RowKit
theorem liveB_spec {id:Nat} (h:liveB σ id ver=some b):σ id=⟨ver,some b⟩:=by
 unfold liveB at h
 split at h
 ·rename_i v b0 e
  split at h
  ·rename_i e2;cases h;rw[e,Nat.eq_of_beq_eq_true e2]
  ·cases h
 ·cases h
theorem eqN_spec {x:Option (Option Nat)} {b:Nat} (h:eqN x b=true):x=some (some b):=by
 unfold eqN at h
 split at h
 ·rw[Nat.eq_of_beq_eq_true h]
 ·cases h
theorem hasSrc_spec {id:Nat}:∀{ρ:Rl},hasSrc id ρ=false->∀i,(i,some id)∉ρ
 | [],_,i=>by simp
 | (a,some j)::l,h,i=>by
  unfold hasSrc at h
  split at h
  ·cases h
  ·rename_i e
   have hne:j≠id:=fun e2=>by rw[e2,Nat.beq_refl]at e;cases e
   simp only[List.mem_cons,Prod.mk.injEq,Option.some.injEq,not_or]
   exact⟨fun h=>hne h.2.symm,hasSrc_spec h i⟩
 | (a,none)::l,h,i=>by
  unfold hasSrc at h
  simp only[List.mem_cons,Prod.mk.injEq,reduceCtorEq,and_false,false_or]
  exact hasSrc_spec h i
def sameS (e:Ent) (b:Blk):Prop:=match b with
 | .rowb k l=>e=⟨0,some (.rowb k l)⟩
 | .rowd k l=>e=⟨0,some (.rowd k l)⟩
 | .box _=>∃cs,e=⟨0,some (.box cs)⟩
 | .objb o=>e=⟨0,some (.objb o)⟩
 | _=>True
theorem sameS.row {e:Ent} {l:List (ty k)} (h:sameS e b) (hw:IsRw b k l):e=⟨0,some b⟩:=by cases hw<;>exact h
theorem sameS.self {l:List (ty k)} (hw:IsRw b k l):sameS ⟨0,some b⟩ b:=by cases hw<;>exact rfl
theorem rowK_rw (d:Bool) (k:K) (l:List (ty k)):IsRw (rowK d k l) k l:=by cases d<;>constructor
theorem rowAs_spec {d:Bool} {l:List (ty k)} (h:rowAs d k b=some l):b=rowK d k l:=by
 unfold rowAs at h
 split at h
 ·split at h
  ·obtain⟨rfl,rfl⟩:=castL_some h;rfl
  ·cases h
 ·split at h
  ·obtain⟨rfl,rfl⟩:=castL_some h;rfl
  ·cases h
 ·cases h
theorem rowOf_spec {d:Bool} {l:List (ty k)} (h:rowOf b=some (d,⟨k,l⟩)):b=rowK d k l:=by
 unfold rowOf at h
 split at h
 ·cases h;rfl
 ·cases h;rfl
 ·cases h
section
variable {Z:Env} {ρl:Rl} {σ':Sto}
structure Hy (Z:Env) (ρl:Rl) (σ':Sto):Prop where
 a:∀id,hasSrc id ρl=false->∀i,look i ρl≠some (some id)
 b:∀id id0 ver b,look id ρl=some (some id0)->Z.s id0=⟨ver,some b⟩->sameS (σ' id) b
abbrev ρf (ρl:Rl):Rn:=fun id=>look id ρl
theorem leafD_spec (H:Hy Z ρl σ') {x:LeafI} {lf:Leaf} (h:leafD Z.s ρl p=some x) (hi:InL x lf):Sl0 (ρf ρl) Z.s σ' p (leafPV lf):=by
 unfold leafD at h
 split at h
 ·cases h;exact .v _ _ hi
 ·cases h;obtain⟨k,rfl⟩:=hi;exact .nilRow k
 ·cases h;have e:lf=_:=hi;subst e;exact .row _ _
 ·rename_i id ver off n full
  unfold letD at h
  split at h
  ·rename_i k l hl hn
   cases h
   have e:lf=_:=hi
   subst e
   cases full with
   | true=>exact .letF (liveB_spec hl) .b (H.a _ hn)
   | false=>exact .let_ (liveB_spec hl) .b (H.a _ hn)
  ·rename_i k l hl hn
   cases h
   have e:lf=_:=hi
   subst e
   cases full with
   | true=>exact .letF (liveB_spec hl) .d (H.a _ hn)
   | false=>exact .let_ (liveB_spec hl) .d (H.a _ hn)
  ·cases h
 ·cases h
abbrev SB (Z:Env) (src:Rl) (bl:List (Nat×Blk)):Prop:=∀id id0 ver b,(id,some id0)∈src->Z.s id0=⟨ver,some b⟩->∃b',(id,b')∈bl/\sameS ⟨0,some b'⟩ b
abbrev BS (Z:Env) (ρl:Rl) (σ':Sto) (src:Rl) (bl:List (Nat×Blk)):Prop:=∀id b',(id,b')∈bl->(∃id0 v0 b0,(id,some id0)∈src/\Z.s id0=⟨v0,some b0⟩/\BlR (ρf ρl) Z.s σ' b0 b')∨((id,none)∈src/\∃k,IsRw b' k [])
theorem SB.app {s1 s2:Rl} {b1 b2:List (Nat×Blk)} (h1:SB Z s1 b1) (h2:SB Z s2 b2):SB Z (s1++s2) (b1++b2):=fun id id0 ver b hm he=>by
 rcases List.mem_append.1 hm with h|h
 ·obtain⟨b',q1,q2⟩:=h1 id id0 ver b h he;exact⟨b',List.mem_append_left _ q1,q2⟩
 ·obtain⟨b',q1,q2⟩:=h2 id id0 ver b h he;exact⟨b',List.mem_append_right _ q1,q2⟩
theorem BS.app {s1 s2:Rl} {b1 b2:List (Nat×Blk)} (h1:BS Z ρl σ' s1 b1) (h2:BS Z ρl σ' s2 b2):BS Z ρl σ' (s1++s2) (b1++b2):=fun id b' hm=>by
 rcases List.mem_append.1 hm with h|h
 ·exact(h1 id b' h).imp (fun⟨i,v,b,q,r⟩=>⟨i,v,b,List.mem_append_left _ q,r⟩) (fun⟨q,r⟩=>⟨List.mem_append_left _ q,r⟩)
 ·exact(h2 id b' h).imp (fun⟨i,v,b,q,r⟩=>⟨i,v,b,List.mem_append_right _ q,r⟩) (fun⟨q,r⟩=>⟨List.mem_append_right _ q,r⟩)
theorem SB.nil {b:List (Nat×Blk)}:SB Z [] b:=fun _ _ _ _ h=>by cases h
theorem BS.nil {s:Rl}:BS Z ρl σ' s []:=fun _ _ h=>by cases h
theorem sto_spec {refs:List (Nat×Nat)}:∀{ps:List PV} {ls:List LeafI} {lfs:List Leaf} {j:Nat},stoL Z.s ρl refs j ps=some ls->All2 InL ls lfs->
  SB Z (stoSrc refs j ps) (stoB refs j lfs)/\BS Z ρl σ' (stoSrc refs j ps) (stoB refs j lfs)/\(Hy Z ρl σ'->(∀id b,(id,b)∈stoB refs j lfs->σ' id=⟨0,some b⟩)->All2 (Sl0 (ρf ρl) Z.s σ') ps (stoP refs j lfs))
 | [],ls,lfs,j,h,hi=>by
  cases h
  cases lfs with
  | nil=>exact⟨SB.nil,BS.nil,fun _ _=>trivial⟩
  | cons _ _=>exact hi.elim
 | p::ps,ls,lfs,j,h,hi=>by
  unfold stoL at h
  split at h
  ·rename_i a l h1 h2
   cases h
   cases lfs with
   | nil=>exact hi.elim
   | cons lf lfs=>
    obtain⟨hi1,hi2⟩:=hi
    obtain⟨q1,q2,q3⟩:=sto_spec (j:=j+1) h2 hi2
    cases hlk:look j refs with
    | none=>
     simp only[hlk]at h1
     have e1:stoSrc refs j (p::ps)=stoSrc refs (j+1) ps:=by simp[stoSrc,hlk]
     have e2:stoB refs j (lf::lfs)=stoB refs (j+1) lfs:=by simp[stoB,hlk]
     have e3:stoP refs j (lf::lfs)=leafPV lf::stoP refs (j+1) lfs:=by simp[stoP,hlk]
     rw[e1,e2,e3]
     exact⟨q1,q2,fun H hb=>⟨leafD_spec H h1 hi1,q3 H hb⟩⟩
    | some id=>
     simp only[hlk]at h1
     have e1:stoSrc refs j (p::ps)=(id,srcP p)::stoSrc refs (j+1) ps:=by simp[stoSrc,hlk]
     rw[e1]
     split at h1
     ·split at h1
      ·rename_i e
       cases h1
       obtain⟨k,rfl⟩:=hi1
       have e2:stoB refs j (.nest k []::lfs)=(id,rowK (dpI id k) k [])::stoB refs (j+1) lfs:=by simp[stoB,hlk]
       have e3:stoP refs j (.nest k []::lfs)= .ref id 0 0 0 true::stoP refs (j+1) lfs:=by simp[stoP,hlk]
       rw[e2,e3]
       refine⟨fun i id0 ver b hm he=> ?_,fun i b' hm=> ?_,fun H hb=>⟨.nilRef (k:=k) (rowK_rw _ _ _) e (hb _ _ (List.mem_cons_self ..)),q3 H fun i b hm=>hb i b (List.mem_cons_of_mem _ hm)⟩⟩
       ·rcases List.mem_cons.1 hm with hm|hm
        ·cases hm
        ·obtain⟨b',r1,r2⟩:=q1 i id0 ver b hm he;exact⟨b',List.mem_cons_of_mem _ r1,r2⟩
       ·rcases List.mem_cons.1 hm with hm|hm
        ·cases hm;exact .inr ⟨List.mem_cons_self ..,k,rowK_rw _ _ _⟩
        ·exact(q2 i b' hm).imp (fun⟨i,v,b,q,r⟩=>⟨i,v,b,List.mem_cons_of_mem _ q,r⟩) (fun⟨q,r⟩=>⟨List.mem_cons_of_mem _ q,r⟩)
      ·cases h1
     ·rename_i id0 ver off n
      split at h1
      ·rename_i blk e4 e5
       split at h1
       case h_2=>cases h1
       rename_i d k l e6
       split at h1
       case h_2=>cases h1
       rename_i e7
       cases h1
       obtain rfl:=rowOf_spec e6
       obtain rfl:d=dpI id k:=eq_of_beq e7
       have hi1:lf= .nest k l:=hi1
       subst hi1
       have e5:=liveB_spec e5
       have e2:stoB refs j (.nest k l::lfs)=(id,rowK (dpI id k) k l)::stoB refs (j+1) lfs:=by simp[stoB,hlk]
       have e3:stoP refs j (.nest k l::lfs)= .ref id 0 0 l.length true::stoP refs (j+1) lfs:=by simp[stoP,hlk]
       rw[e2,e3]
       refine⟨fun i id0' ver b hm he=> ?_,fun i b' hm=> ?_,fun H hb=>⟨.refF e5 (rowK_rw _ _ _) (eqN_spec e4) (hb _ _ (List.mem_cons_self ..)),q3 H fun i b hm=>hb i b (List.mem_cons_of_mem _ hm)⟩⟩
       ·rcases List.mem_cons.1 hm with hm|hm
        ·cases hm
         rw[e5]at he;cases he
         exact⟨_,List.mem_cons_self ..,sameS.self (rowK_rw _ _ _)⟩
        ·obtain⟨b',r1,r2⟩:=q1 i id0' ver b hm he;exact⟨b',List.mem_cons_of_mem _ r1,r2⟩
       ·rcases List.mem_cons.1 hm with hm|hm
        ·cases hm;exact .inl ⟨_,_,_,List.mem_cons_self ..,e5,.row (rowK_rw _ _ _)⟩
        ·exact(q2 i b' hm).imp (fun⟨i,v,b,q,r⟩=>⟨i,v,b,List.mem_cons_of_mem _ q,r⟩) (fun⟨q,r⟩=>⟨List.mem_cons_of_mem _ q,r⟩)
      ·cases h1
     ·cases h1
  ·cases h
theorem list_spec {k:K} {x:LeafI} {l:List (ty k)} (h:x.list k=some l):InL x (.nest k l):=LeafI.list_spec h
theorem capsOk_spec (H:Hy Z ρl σ'):∀{l:List (Nat×Nat)} {ps:List PV},capsOk Z.s ρl l ps=true->All2 (SlP (ρf ρl) Z.s σ') ps (capsP l)
 | [],[],_=>trivial
 | [],_::_,h=>by cases h
 | (id,j)::l,[],h=>by cases h
 | (id,j)::l,p::ps,h=>by
  unfold capsOk at h
  split at h
  ·rename_i e1 e2;cases e1
  ·rename_i id1 j1 l1 id0 ver i j' ps1 e1 e2
   cases e1;cases e2
   simp only[Bool.and_eq_true]at h
   obtain⟨h1,h2,h3,h4,h5⟩:=h
   rw[Nat.eq_of_beq_eq_true h1,Nat.eq_of_beq_eq_true h2]
   split at h4
   ·rename_i cs e2
    obtain⟨cs',e3⟩:=H.b _ _ _ _ (eqN_spec h3) (liveB_spec e2)
    exact⟨⟨.ptrb (liveB_spec e2) (eqN_spec h3) e3,rfl,rfl⟩,capsOk_spec H h5⟩
   ·cases h4
  ·cases h
theorem Sh.dec_spec (H:Hy Z ρl σ'):∀{sh:Sh} {p:PV} {x:sh.V},sh.dec Z.s ρl p=some x->(∀id b,(id,b)∈sh.bl x->σ' id=⟨0,some b⟩)->
  Sl1 (ρf ρl) Z.s σ' p (sh.enc x)/\((∀k r,sh≠ .st k r)->SlB (ρf ρl) Z.s σ' p (sh.enc x)):=by
 intro sh p x h hb
 have z:Sl0 (ρf ρl) Z.s σ' p (sh.enc x)->Sl1 (ρf ρl) Z.s σ' p (sh.enc x)/\((∀k r,sh≠ .st k r)->SlB (ρf ρl) Z.s σ' p (sh.enc x)):=fun h=>⟨.inl (.inl h),fun _=> .inl h⟩
 unfold Sh.dec at h
 split at h
 ·rename_i k k' n
  split at h
  ·rename_i e;subst e;cases h;exact z (.v _ (.sc _) fun _=>rfl)
  ·cases h
 ·cases h;exact z (.v _ (.sc _) fun _=>rfl)
 ·cases h;exact z (.v _ (.sc _) fun _=>rfl)
 ·rename_i k p
  split at h
  ·rename_i y hy;exact z (leafD_spec H hy (list_spec h))
  ·cases h
 ·rename_i k refs cs
  split at h
  ·rename_i l hl
   exact⟨.inr ⟨_,_,rfl,rfl,(sto_spec hl (ofLeaves_spec h)).2.2 H hb⟩,fun hn=>absurd rfl (hn k refs)⟩
  ·cases h
 ·rename_i k id
  split at h
  ·rename_i e
   cases h
   exact z (.nilRef (k:=k) (rowK_rw _ _ _) e (hb id _ (List.mem_cons_self ..)))
  ·cases h
 ·rename_i k id id0 ver off n
  split at h
  ·rename_i b e1 e2
   obtain rfl:=rowAs_spec h
   exact z (.refF (liveB_spec e2) (rowK_rw _ _ _) (eqN_spec e1) (hb id _ (List.mem_cons_self ..)))
  ·cases h
 ·rename_i id id0 ver off n full
  split at h
  ·rename_i k' l e1 e2
   cases h
   have:=H.b _ _ _ _ (eqN_spec e1) (liveB_spec e2)
   exact z (.refV (liveB_spec e2) .b (eqN_spec e1) this)
  ·rename_i k' l e1 e2
   cases h
   have:=H.b _ _ _ _ (eqN_spec e1) (liveB_spec e2)
   exact z (.refV (liveB_spec e2) .d (eqN_spec e1) this)
  ·cases h
 ·rename_i id j id0 ver i j'
  split at h
  ·rename_i cs e0 e1 e2
   cases h
   obtain⟨cs',h3⟩:=H.b _ _ _ _ (eqN_spec e1) (liveB_spec e2)
   obtain rfl:=Nat.eq_of_beq_eq_true e0
   exact z (.ptrb (liveB_spec e2) (eqN_spec e1) h3)
  ·rename_i k l e0 e1 e2
   cases h
   have h3:=H.b _ _ _ _ (eqN_spec e1) (liveB_spec e2)
   obtain rfl:=Nat.eq_of_beq_eq_true e0
   exact z (.ptrr (liveB_spec e2) .b (eqN_spec e1) h3)
  ·rename_i k l e0 e1 e2
   cases h
   have h3:=H.b _ _ _ _ (eqN_spec e1) (liveB_spec e2)
   obtain rfl:=Nat.eq_of_beq_eq_true e0
   exact z (.ptrr (liveB_spec e2) .d (eqN_spec e1) h3)
  ·cases h
 ·rename_i k j k' l i j'
  split at h
  ·rename_i l' e0 e1
   cases h
   obtain⟨rfl,rfl⟩:=castL_some e1
   obtain rfl:=Nat.eq_of_beq_eq_true e0
   exact z (.eptr _ _ _ _)
  ·cases h
 ·rename_i f caps f' ps
  split at h
  ·rename_i e
   cases h
   rw[Bool.and_eq_true]at e
   obtain rfl:=Nat.eq_of_beq_eq_true e.1
   have:=capsOk_spec H e.2
   exact⟨.inl (.inr ⟨_,_,_,rfl,rfl,this⟩),fun _=> .inr ⟨_,_,_,rfl,rfl,this⟩⟩
  ·cases h
 ·cases h
theorem plDec_spec (H:Hy Z ρl σ'):∀{l:List Sh} {ps:List PV} {x:PL l},plDec Z.s ρl l ps=some x->(∀id b,(id,b)∈plBl l x->σ' id=⟨0,some b⟩)->
  All2 (Sl1 (ρf ρl) Z.s σ') ps (plEnc l x)/\((∀s∈l,∀k r,s≠ .st k r)->All2 (SlB (ρf ρl) Z.s σ') ps (plEnc l x)):=by
 intro l
 induction l with
 | nil=>
  intro ps x h hb
  cases ps with
  | nil=>exact⟨trivial,fun _=>trivial⟩
  | cons _ _=>cases h
 | cons a l ih=>
  intro ps x h hb
  cases l with
  | nil=>
   match ps,h with
   | [p],h=>
    have:=Sh.dec_spec H (sh:=a) (p:=p) h hb
    exact⟨⟨this.1,trivial⟩,fun hn=>⟨this.2 (hn a (by simp)),trivial⟩⟩
   | [],h=>cases h
   | _::_::_,h=>cases h
  | cons b l=>
   match ps,h with
   | p::ps,h=>
    unfold plDec at h
    split at h
    ·rename_i x1 y1 h1 h2
     cases h
     have q1:=Sh.dec_spec H h1 fun id b hm=>hb id b (List.mem_append_left _ hm)
     have q2:=ih h2 fun id b hm=>hb id b (List.mem_append_right _ hm)
     exact⟨⟨q1.1,q2.1⟩,fun hn=>⟨q1.2 (hn a (by simp)),q2.2 fun s hs=>hn s (List.mem_cons_of_mem _ hs)⟩⟩
    ·cases h
   | [],h=>cases h
end
open Go.RowKit
section
variable {Z:Env} {ρl:Rl} {σ':Sto}
theorem Sh.sb:∀{sh:Sh} {p:PV} {x:sh.V},sh.dec Z.s ρl p=some x->SB Z (sh.src p) (sh.bl x)/\BS Z ρl σ' (sh.src p) (sh.bl x):=by
 intro sh p x h
 cases sh with
 | own k id=>
  cases p with
  | nil=>
   simp only[Sh.dec]at h
   split at h
   ·cases h
    refine⟨fun i id0 ver b hm he=> ?_,fun i b' hm=> ?_⟩
    ·simp[Sh.src,srcP]at hm
    ·obtain⟨rfl,rfl⟩:i=id/\b'=rowK (dpI id k) k []:=by simpa [Sh.bl]using hm
     exact .inr ⟨by simp[Sh.src,srcP],k,rowK_rw _ _ _⟩
   ·cases h
  | ref id0 ver off n full=>
   cases full with
   | false=>simp[Sh.dec]at h
   | true=>
    simp only[Sh.dec]at h
    split at h
    ·rename_i blk e1 e2
     obtain rfl:=rowAs_spec h
     have e2:=liveB_spec e2
     refine⟨fun i id0' ver b hm he=> ?_,fun i b' hm=> ?_⟩
     ·obtain⟨rfl,rfl⟩:i=id/\id0'=id0:=by simpa [Sh.src,srcP]using hm
      rw[e2]at he;cases he
      exact⟨_,List.mem_cons_self ..,sameS.self (rowK_rw _ _ _)⟩
     ·obtain⟨rfl,rfl⟩:i=id/\b'=rowK (dpI id k) k x:=by simpa [Sh.bl]using hm
      exact .inl ⟨_,_,_,List.mem_cons_self ..,e2,.row (rowK_rw _ _ _)⟩
    ·cases h
  | _=>simp[Sh.dec]at h
 | st k refs=>
  cases p with
  | agg cs=>
   simp only[Sh.dec]at h
   split at h
   ·rename_i l hl
    have:=sto_spec (σ':=σ') hl (ofLeaves_spec h)
    exact⟨this.1,this.2.1⟩
   ·cases h
  | _=>simp[Sh.dec]at h
 | _=>exact⟨SB.nil,BS.nil⟩
theorem plDec.sb:∀{l:List Sh} {ps:List PV} {x:PL l},plDec Z.s ρl l ps=some x->SB Z (plSrc l ps) (plBl l x)/\BS Z ρl σ' (plSrc l ps) (plBl l x):=by
 intro l
 induction l with
 | nil=>
  intro ps x h
  exact⟨by cases ps<;>exact SB.nil,BS.nil⟩
 | cons a l ih=>
  intro ps x h
  cases l with
  | nil=>
   match ps,h with
   | [p],h=>
    have:=Sh.sb (σ':=σ') (sh:=a) (p:=p) h
    simp only[plSrc,List.append_nil]
    exact this
   | [],h=>cases h
   | _::_::_,h=>cases h
  | cons b l=>
   match ps,h with
   | p::ps,h=>
    unfold plDec at h
    split at h
    ·rename_i x1 y1 h1 h2
     cases h
     have q1:=Sh.sb (σ':=σ') h1
     have q2:=ih h2
     exact⟨q1.1.app q2.1,q1.2.app q2.2⟩
    ·cases h
   | [],h=>cases h
theorem boxC_eq {id:Nat} {cs:List PV} (h:Z.s id=⟨v,some (.box cs)⟩):boxC Z id=cs:=by unfold boxC;rw[h]
theorem sb_box {id:Nat} {cs:List PV} {src:Rl} {ds:List PV} {bl:List (Nat×Blk)} (he:Z.s id=⟨v,some (.box cs)⟩) (h1:SB Z src bl):SB Z ((id,some id)::src) ((id,.box ds)::bl):=fun i id0 ver b hm e=>by
 rcases List.mem_cons.1 hm with hm|hm
 ·cases hm
  rw[he]at e;cases e
  exact⟨_,List.mem_cons_self ..,_,rfl⟩
 ·obtain⟨b',r1,r2⟩:=h1 i id0 ver b hm e;exact⟨b',List.mem_cons_of_mem _ r1,r2⟩
theorem bs_box {id:Nat} {cs:List PV} {src:Rl} {ds:List PV} {bl:List (Nat×Blk)} (he:Z.s id=⟨v,some (.box cs)⟩) (h1:BS Z ρl σ' src bl) (h2:All2 (SlB (ρf ρl) Z.s σ') cs ds):BS Z ρl σ' ((id,some id)::src) ((id,.box ds)::bl):=fun i b' hm=>by
 rcases List.mem_cons.1 hm with hm|hm
 ·cases hm;exact .inl ⟨id,v,_,List.mem_cons_self ..,he,.box h2⟩
 ·exact(h1 i b' hm).imp (fun⟨i,v,b,q,r⟩=>⟨i,v,b,List.mem_cons_of_mem _ q,r⟩) (fun⟨q,r⟩=>⟨List.mem_cons_of_mem _ q,r⟩)
theorem noSt_spec {id:Nat} {l:List Sh} (h:(En.bxl id l).okB=true):∀s∈l,∀k r,s≠ .st k r:=fun s hs k r e=>by
 subst e
 have:=List.all_eq_true.1 h _ hs
 cases this
theorem En.spec:∀{e:En} {x:e.V},e.okB=true->e.dec Z ρl=some x->SB Z (e.src Z) (e.bl x)/\(Hy Z ρl σ'->(∀id b,(id,b)∈e.bl x->σ' id=⟨0,some b⟩)->BS Z ρl σ' (e.src Z) (e.bl x)/\∀t p,(t,p)∈e.tm x->SlC (ρf ρl) Z.s σ' (Z.t t) p):=by
 intro e x ho h
 cases e with
 | sl t sh=>
  have q:=Sh.sb (σ':=σ') (sh:=sh) h
  refine⟨q.1,fun H hb=>⟨q.2,fun t' p hm=> ?_⟩⟩
  obtain⟨rfl,rfl⟩:t'=t/\p=sh.enc x:=by simpa [En.tm]using hm
  exact .inl (Sh.dec_spec H (sh:=sh) h hb).1
 | tup t l=>
  simp only[En.dec]at h
  split at h
  ·rename_i vs he
   have q:=plDec.sb (σ':=σ') (l:=l) h
   simp only[En.src,he,tupC]
   refine⟨q.1,fun H hb=>⟨q.2,fun t' p hm=> ?_⟩⟩
   obtain⟨rfl,rfl⟩:t'=t/\p= .tup (plEnc l x):=by simpa [En.tm]using hm
   rw[he]
   exact .inr (.inl ⟨_,_,rfl,rfl,(plDec_spec H h hb).1⟩)
  ·cases h
 | bxl id l=>
  simp only[En.dec]at h
  split at h
  ·rename_i v cs he
   have q:=plDec.sb (σ':=σ') (l:=l) h
   simp only[En.src,En.bl,boxC_eq he]
   exact⟨sb_box he q.1,fun H hb=>⟨bs_box he q.2 ((plDec_spec H h fun i b hm=>hb i b (List.mem_cons_of_mem _ hm)).2 (noSt_spec (id:=id) ho)),fun t p hm=>by cases hm⟩⟩
  ·cases h
 | sto id k refs=>
  simp only[En.dec]at h
  split at h
  ·rename_i v cs he
   split at h
   ·rename_i l hl
    have q:=sto_spec (σ':=σ') hl (ofLeaves_spec h)
    simp only[En.src,En.bl,boxC_eq he]
    exact⟨sb_box he q.1,fun H hb=>⟨bs_box he q.2.1 ((q.2.2 H fun i b hm=>hb i b (List.mem_cons_of_mem _ hm)).mono fun _ _ h=> .inl h),fun t p hm=>by cases hm⟩⟩
   ·cases h
  ·cases h
 | rw id k=>
  simp only[En.dec]at h
  split at h
  ·rename_i v blk he
   obtain rfl:=rowAs_spec h
   refine⟨fun i id0 ver b hm e=> ?_,fun H hb=>⟨fun i b' hm=> ?_,fun t p hm=>by cases hm⟩⟩
   ·obtain⟨rfl,rfl⟩:i=id/\id0=id:=by simpa [En.src]using hm
    rw[he]at e;cases e
    exact⟨_,List.mem_cons_self ..,sameS.self (rowK_rw _ _ _)⟩
   ·obtain⟨rfl,rfl⟩:i=id/\b'=rowK (dpI id k) k x:=by simpa [En.bl]using hm
    exact .inl ⟨_,_,_,List.mem_cons_self ..,he,.row (rowK_rw _ _ _)⟩
  ·cases h
 | ob id=>
  simp only[En.dec]at h
  split at h
  ·rename_i v o he
   cases h
   refine⟨fun i id0 ver b hm e=> ?_,fun H hb=>⟨fun i b' hm=> ?_,fun t p hm=>by cases hm⟩⟩
   ·obtain⟨rfl,rfl⟩:i=id/\id0=id:=by simpa [En.src]using hm
    rw[he]at e;cases e
    exact⟨_,List.mem_cons_self ..,rfl⟩
   ·obtain⟨rfl,rfl⟩:i=id/\b'= .objb x:=by simpa [En.bl]using hm
    exact .inl ⟨_,_,_,List.mem_cons_self ..,he,.obj⟩
  ·cases h
end
open Go.RowKit
theorem nodN_spec:∀{l:List Nat},nodN l=true->l.Nodup
 | [],_=>List.nodup_nil
 | x::l,h=>by
  simp only[nodN,Bool.and_eq_true,Bool.not_eq_true',List.any_eq_false]at h
  refine List.nodup_cons.2 ⟨fun hm=> ?_,nodN_spec h.2⟩
  have:=h.1 x hm
  rw[Nat.beq_refl]at this
  exact this rfl
theorem look_of_mem {α:Type}:∀{l:List (Nat×α)} {a:Nat} {b:α},(l.map (·.1)).Nodup->(a,b)∈l->look a l=some b
 | (k,v)::l,a,b,hn,hm=>by
  rw[List.map_cons,List.nodup_cons]at hn
  unfold look
  rcases List.mem_cons.1 hm with e|hm
  ·cases e;rw[if_pos rfl]
  ·rw[if_neg (fun e=>hn.1 (by rw[e];exact List.mem_map.2 ⟨_,hm,rfl⟩))]
   exact look_of_mem hn.2 hm
 | [],_,_,_,hm=>by cases hm
theorem srcs_inj:∀{l:Rl} {i j id:Nat},(srcsL l).Nodup->(i,some id)∈l->(j,some id)∈l->i=j
 | (a,none)::l,i,j,id,hn,h1,h2=>by
  have h1:(i,some id)∈l:=(List.mem_cons.1 h1).resolve_left (fun e=>nomatch e)
  have h2:(j,some id)∈l:=(List.mem_cons.1 h2).resolve_left (fun e=>nomatch e)
  exact srcs_inj (l:=l) hn h1 h2
 | (a,some x)::l,i,j,id,hn,h1,h2=>by
  have mem:∀{l:Rl} {i:Nat},(i,some id)∈l->id∈srcsL l:=by
   intro l
   induction l with
   | nil=>intro i h;cases h
   | cons y l ih=>
    intro i h
    obtain⟨a,b⟩:=y
    cases b with
    | none=>simp only[List.mem_cons,Prod.mk.injEq,reduceCtorEq,and_false,false_or]at h;exact ih h
    | some b=>
     rcases List.mem_cons.1 h with e|h
     ·cases e;exact List.mem_cons_self ..
     ·exact List.mem_cons_of_mem _ (ih h)
  have hn:(x::srcsL l).Nodup:=hn
  rw[List.nodup_cons]at hn
  rcases List.mem_cons.1 h1 with e1|h1
  ·rcases List.mem_cons.1 h2 with e2|h2
   ·cases e1;cases e2;rfl
   ·cases e1;exact absurd (mem h2) hn.1
  ·rcases List.mem_cons.1 h2 with e2|h2
   ·cases e2;exact absurd (mem h1) hn.1
   ·exact srcs_inj hn.2 h1 h2
 | [],_,_,_,_,h,_=>by cases h
theorem bigB_spec {nx:Nat}:∀{l:Rl},bigB nx l=true->∀i j,(i,some j)∈l->i≠j->nx<=i/\nx<=j
 | (a,none)::l,h,i,j,hm,hne=>by
  have hm:(i,some j)∈l:=(List.mem_cons.1 hm).resolve_left (fun e=>nomatch e)
  exact bigB_spec (l:=l) h i j hm hne
 | (a,some x)::l,h,i,j,hm,hne=>by
  have h:((Nat.beq a x||(Nat.ble nx a&&Nat.ble nx x))&&bigB nx l)=true:=h
  rw[Bool.and_eq_true,Bool.or_eq_true,Bool.and_eq_true]at h
  rcases List.mem_cons.1 hm with e|hm
  ·cases e
   rcases h.1 with h1|⟨h1,h2⟩
   ·exact absurd (Nat.eq_of_beq_eq_true h1) hne
   ·exact⟨Nat.le_of_ble_eq_true h1,Nat.le_of_ble_eq_true h2⟩
  ·exact bigB_spec h.2 i j hm hne
 | [],_,_,_,hm,_=>by cases hm
section
variable {Z:Env} {ρl:Rl} {σ':Sto}
theorem el_spec:∀{es:List En} {x:EL es},es.all En.okB=true->elDec Z ρl es=some x->SB Z (es.flatMap (En.src Z)) (elBl es x)/\
  (Hy Z ρl σ'->(∀id b,(id,b)∈elBl es x->σ' id=⟨0,some b⟩)->BS Z ρl σ' (es.flatMap (En.src Z)) (elBl es x)/\∀t p,(t,p)∈elTm es x->SlC (ρf ρl) Z.s σ' (Z.t t) p):=by
 intro es
 induction es with
 | nil=>intro x _ h;exact⟨SB.nil,fun _ _=>⟨BS.nil,fun _ _ h=>by cases h⟩⟩
 | cons a l ih=>
  intro x ho h
  rw[List.all_cons,Bool.and_eq_true]at ho
  cases l with
  | nil=>
   have:=En.spec (σ':=σ') (e:=a) ho.1 h
   simp only[List.flatMap_cons,List.flatMap_nil,List.append_nil]
   exact this
  | cons b l=>
   unfold elDec at h
   split at h
   ·rename_i x1 y1 h1 h2
    cases h
    have q1:=En.spec (σ':=σ') ho.1 h1
    have q2:=ih ho.2 h2
    rw[List.flatMap_cons]
    refine⟨q1.1.app q2.1,fun H hb=> ?_⟩
    have r1:=q1.2 H fun i b hm=>hb i b (List.mem_append_left _ hm)
    have r2:=q2.2 H fun i b hm=>hb i b (List.mem_append_right _ hm)
    refine⟨r1.1.app r2.1,fun t p hm=> ?_⟩
    rcases List.mem_append.1 hm with hm|hm
    ·exact r1.2 t p hm
    ·exact r2.2 t p hm
   ·cases h
theorem U.ok_spec (H:Hy Z ρl σ') {u:U} (h:u.ok Z.s ρl p=true):SlC (ρf ρl) Z.s σ' p (u.pv σ'):=by
 unfold U.ok at h
 split at h
 ·exact .inl (.inl (.inl .nil))
 ·exact .inl (.inl (.inl .un))
 ·exact .inl (.inl (.inl (.v _ (.sc _) fun _=>rfl)))
 ·rename_i f caps f' ps
  rw[Bool.and_eq_true]at h
  obtain rfl:=Nat.eq_of_beq_eq_true h.1
  exact .inr (.inr ⟨_,_,_,rfl,rfl,capsOk_spec H h.2⟩)
 ·rename_i id id0 ver off n
  split at h
  ·rename_i k l e1 e2
   have e3:σ' id=_:=H.b _ _ _ _ (eqN_spec e1) (liveB_spec e2)
   simp only[U.pv,e3]
   exact .inl (.inl (.inl (.refF (liveB_spec e2) .b (eqN_spec e1) e3)))
  ·rename_i k l e1 e2
   have e3:σ' id=_:=H.b _ _ _ _ (eqN_spec e1) (liveB_spec e2)
   simp only[U.pv,e3]
   exact .inl (.inl (.inl (.refF (liveB_spec e2) .d (eqN_spec e1) e3)))
  ·cases h
 ·rename_i id j id0 ver i j'
  simp only[Bool.and_eq_true]at h
  obtain⟨h1,h2,h3,h4⟩:=h
  rw[Nat.eq_of_beq_eq_true h1,Nat.eq_of_beq_eq_true h2]
  split at h4
  ·rename_i cs e2
   obtain⟨cs',e3⟩:=H.b _ _ _ _ (eqN_spec h3) (liveB_spec e2)
   exact .inl (.inl (.inl (.ptrb (liveB_spec e2) (eqN_spec h3) e3)))
  ·rename_i k l e2
   have e3:=H.b _ _ _ _ (eqN_spec h3) (liveB_spec e2)
   exact .inl (.inl (.inl (.ptrr (liveB_spec e2) .b (eqN_spec h3) e3)))
  ·rename_i k l e2
   have e3:=H.b _ _ _ _ (eqN_spec h3) (liveB_spec e2)
   exact .inl (.inl (.inl (.ptrr (liveB_spec e2) .d (eqN_spec h3) e3)))
  ·rename_i o e2
   have e3:=H.b _ _ _ _ (eqN_spec h3) (liveB_spec e2)
   exact .inl (.inl (.inl (.ptro (liveB_spec e2) (eqN_spec h3) e3)))
  ·cases h4
 ·cases h
theorem usOk_spec (H:Hy Z ρl σ'):∀{us:List (Nat×U)},usOk Z ρl us=true->∀t p,(t,p)∈usTm σ' us->SlC (ρf ρl) Z.s σ' (Z.t t) p
 | [],_,_,_,hm=>by cases hm
 | (t0,u)::l,h,t,p,hm=>by
  unfold usOk at h
  rw[Bool.and_eq_true]at h
  rcases List.mem_cons.1 hm with e|hm
  ·cases e;exact U.ok_spec H h.1
  ·exact usOk_spec H h.2 t p hm
end
theorem Shape.dec_nrm {sh:Shape} {Z0:Env} {v:EL sh.es} (h:sh.dec nx Z0=some v):Nrm (nxB nx) (nxL nx) (ρf (sh.src (unfEnv (srcsL (sh.src Z0)) Z0))) (unfEnv (srcsL (sh.src Z0)) Z0) (sh.enc v):=by
 unfold Shape.dec at h
 simp only at h
 generalize unfEnv (srcsL (sh.src Z0)) Z0=Z at h⊢
 split at h
 ·cases h
 rename_i v' hv
 split at h
 case h_2=>cases h
 cases h
 rename_i hc
 simp only[Bool.and_eq_true]at hc
 obtain⟨c1,c2,c3,c4,c5,c6,c7⟩:=hc
 have n2:=nodN_spec c2
 have n3:=nodN_spec c3
 have n4:=nodN_spec c4
 have hbl:∀id b,(id,b)∈elBl sh.es v->(stoOf (elBl sh.es v)) id=⟨0,some b⟩:=fun id b hm=>by
  unfold stoOf;rw[look_of_mem n4 hm]
 have hsb:=(el_spec (σ':=stoOf (elBl sh.es v)) c1 hv).1
 have H:Hy Z (sh.src Z) (stoOf (elBl sh.es v)):=⟨fun id hs i e=>hasSrc_spec hs i (look_mem e),fun id id0 ver b e1 e2=>by
  obtain⟨b',q1,q2⟩:=hsb id id0 ver b (look_mem e1) e2
  rw[hbl id b' q1];exact q2⟩
 obtain⟨hbs,htm⟩:=(el_spec (σ':=stoOf (elBl sh.es v)) c1 hv).2 H hbl
 refine⟨fun i=> ?_,fun id w b e=> ?_,fun i j id e1 e2=>srcs_inj n3 (look_mem e1) (look_mem e2),fun j hj=> ?_,fun q hq=> ?_,fun i id e hne=>bigB_spec c5 i id (look_mem e) hne⟩
 ·show SlC _ _ _ _ (tmOf _ i)
  unfold tmOf
  split
  ·rename_i p hp
   rcases List.mem_append.1 (look_mem hp)with hm|hm
   ·exact usOk_spec H c7 i p hm
   ·exact htm i p hm
  ·exact .inl (.inl (.inl (.dead _)))
 ·have e:stoOf (elBl sh.es v) id=⟨w,some b⟩:=e
  unfold stoOf at e
  split at e
  ·rename_i b' hb
   cases e
   refine⟨rfl,?_⟩
   rcases hbs id b (look_mem hb)with⟨id0,v0,b0,q1,q2,q3⟩ |⟨q1,q2⟩
   ·exact .inl ⟨id0,v0,b0,look_of_mem n2 q1,q2,q3⟩
   ·exact .inr ⟨look_of_mem n2 q1,q2⟩
  ·cases e
 ·have c6:(((List.range (nxB nx)).all fun j=>eqN (look j (sh.src Z)) j&&isBoxE (elBl sh.es v) j)&&((List.range (nxL nx)).all fun q=>eqN (look (50+q) (sh.src Z)) (50+q)&&hasE' (elBl sh.es v) (50+q)))=true:=c6
  rw[Bool.and_eq_true]at c6
  have:=List.all_eq_true.1 c6.1 j (List.mem_range.2 hj)
  rw[Bool.and_eq_true]at this
  refine⟨eqN_spec this.1,?_⟩
  have h2:=this.2
  unfold isBoxE at h2
  split at h2
  ·rename_i cs e
   exact⟨cs,by show(stoOf _ j).blk=_;unfold stoOf;rw[e]⟩
  ·cases h2
 ·have c6:(((List.range (nxB nx)).all fun j=>eqN (look j (sh.src Z)) j&&isBoxE (elBl sh.es v) j)&&((List.range (nxL nx)).all fun q=>eqN (look (50+q) (sh.src Z)) (50+q)&&hasE' (elBl sh.es v) (50+q)))=true:=c6
  rw[Bool.and_eq_true]at c6
  have:=List.all_eq_true.1 c6.2 q (List.mem_range.2 hq)
  rw[Bool.and_eq_true]at this
  refine⟨eqN_spec this.1,?_⟩
  have h2:=this.2
  unfold hasE' at h2
  split at h2
  ·rename_i b e
   exact⟨b,by show(stoOf _ (50+q)).blk=_;unfold stoOf;rw[e]⟩
  ·cases h2
theorem unfS_gh {t:Nat->PV} {s:Sto} {id:Nat}:Gh X nt ⟨t,s⟩ ⟨t,unfS s id⟩:=fun a w hg=>by
 unfold unfS
 split
 ·rename_i ver k l i cs he
  split
  ·rename_i y A hc
   obtain⟨hs,hd,J,N,hst⟩:=hg
   obtain⟨N',st,_⟩:=unfocus_spec (t:=t) hst he hc
   exact⟨hs,hd,J,N',st⟩
  ·exact hg
 ·exact hg
theorem unfSL_gh {X:Ctx} {nt:Nat} {t:Nat->PV}:∀{ids:List Nat} {s:Sto},Gh X nt ⟨t,s⟩ ⟨t,unfSL ids s⟩
 | [],s=>fun a w hg=>hg
 | id::l,s=>fun a w hg=>unfSL_gh (ids:=l) a w (unfS_gh a w hg)
theorem unf_gh (ids:List Nat) (Z:Env):Gh X nt Z (unfEnv ids Z):=fun a w hg=>unfSL_gh (ids:=ids) (t:=Z.t) a w hg
def XOk (nx:Nat) (X:Ctx):Prop:=X.ext.length=nxB nx/\∀q u n,X.rx q=some (u,n)->q<nxL nx
theorem Shape.dec_gh (hX:XOk nx X) {sh:Shape} {v:EL sh.es} (h:sh.dec nx Z=some v):Gh X nt Z (sh.enc v):=fun a w hg=>(Shape.dec_nrm h).gh hX.1 hX.2 a w (unf_gh _ _ a w hg)
open Go.RowKit
def gd {J:Type} (p:Prop) [Decidable p] (x:Option J):Option J:=if p then x else none
theorem gd_some {J:Type} {p:Prop} [Decidable p] {x:Option J} {r:J} (h:gd p x=some r):p/\x=some r:=by
 unfold gd at h
 split at h
 ·rename_i hp;exact⟨hp,h⟩
 ·cases h
def bd {α J:Type} (o:Option α) (f:α->Option J):Option J:=o.bind f
def br {α:Type} (b:Bool) (x y:α):α:=if b then x else y
noncomputable def cmpN {α J:Type} (l:List α) (x y:Option J):Option J:=br l.isEmpty (@ite (Option J) (x=y) (Classical.propDecidable (x=y)) y none) y
def loopF {V O:Type} (B:V->Option (V⊕O)):Nat->V->Option O
 | 0,_=>none
 | n+1,v=>match B v with
  | none=>none
  | some (.inl v')=>loopF B n v'
  | some (.inr o)=>some o
def recF {V R:Type} (B:(V->Option R)->V->Option R):Nat->V->Option R
 | 0,_=>none
 | n+1,v=>B (recF B n) v
def jn {V J:Type} (o:Option (V⊕J)) (f:V->Option J):Option J:=bd o fun s=>match s with
 | .inl v=>f v
 | .inr r=>some r
def ownR (id:Nat) (k:K) (l:List (ty k)):PV:=match dpI id k with
 | true=> .drow k l
 | false=> .row true k l
def cellC (own:Option Nat) (lf:Leaf):PV:=match own,lf with
 | some id,.nest k l=>ownR id k l
 | _,lf=>leafPV lf
def stoR (js:List (Nat×Nat)):Nat->List Leaf->List PV
 | _,[]=> []
 | j,lf::l=>cellC (look j js) lf::stoR js (j+1) l
def Sh.encC:(sh:Sh)->sh.V->PV
 | .own k id,l=>ownR id k l
 | .st k js,x=> .agg (stoR js 0 (leaves (k:=k) x))
 | sh,x=>sh.enc x
def plEncC:(l:List Sh)->PL l->List PV
 | [],_=> []
 | [a],v=> [a.encC v]
 | a::b::l,v=>a.encC v.1::plEncC (b::l) v.2
inductive Ro where
 | one (sh:Sh)|tup (l:List Sh)
abbrev Ro.V:Ro->Type
 | .one sh=>sh.V
 | .tup l=>PL l
def ownOk (own:Option Nat) (k:K):Bool:=match own with
 | none=>true
 | some id=>match dpI id k with
  | true=>flat k
  | false=>true
def leafC (own:Option Nat):PV->Option LeafI
 | .v x=>match own with
  | some _=>none
  | none=>some (.sc x)
 | .nil=>some .nl
 | .row true k l=>match ownOk own k with
  | true=>some (.nest k l)
  | false=>none
 | .drow k l=>some (.nest k l)
 | .row false k l=>match own with
  | some _=>none
  | none=>some (.nest k l)
 | _=>none
def leafsC (js:List (Nat×Nat)):Nat->List PV->Option (List LeafI)
 | _,[]=>some []
 | j,p::ps=>match leafC (look j js) p,leafsC js (j+1) ps with
  | some a,some l=>some (a::l)
  | _,_=>none
def eqC0:PV->PV->Bool
 | .ptr a b c d,.ptr a' b' c' d'=>Nat.beq a a'&&(Nat.beq b b'&&(Nat.beq c c'&&Nat.beq d d'))
 | .nil,.nil=>true
 | .v (.pointer none),.v (.pointer none)=>true
 | _,_=>false
def eqCL:List PV->List PV->Bool
 | [],[]=>true
 | p::ps,q::qs=>eqC0 p q&&eqCL ps qs
 | _,_=>false
def Sh.decC:(sh:Sh)->PV->Option sh.V
 | .I k,.v (.int k' n)=>if k'=k then some n else none
 | .S,.v (.string x)=>some x
 | .B,.v (.bool x)=>some x
 | .row k,p=>match leafC none p with
  | some x=>x.list k
  | none=>none
 | .own k id,p=>match leafC (some id) p with
  | some x=>x.list k
  | none=>none
 | .st k js,.agg cs=>match leafsC js 0 cs with
  | some l=>ofLeaves k l
  | none=>none
 | .eptr k j,.eptr _ l i j'=>match Nat.beq j' j,castL k l with
  | true,some l=>some (l,i)
  | _,_=>none
 | .cfn f caps,.fn f' ps=>match Nat.beq f' f&&eqCL ps (capsP caps)with
  | true=>some ()
  | false=>none
 | _,_=>none
def plDecC:(l:List Sh)->List PV->Option (PL l)
 | [],[]=>some ()
 | [a],[p]=>a.decC p
 | a::b::l,p::ps=>match a.decC p,plDecC (b::l) ps with
  | some x,some y=>some (x,y)
  | _,_=>none
 | _,_=>none
def eqC:PV->PV->Bool
 | .fn f l,.fn g m=>Nat.beq f g&&eqCL l m
 | p,q=>eqC0 p q
def splitA:List (Option PV)->List PV->Option (List PV)
 | [],[]=>some []
 | none::ps,p::l=>match splitA ps l with
  | some ds=>some (p::ds)
  | none=>none
 | some c::ps,p::l=>match eqC p c with
  | true=>splitA ps l
  | false=>none
 | _,_=>none
def joinA:List (Option PV)->List PV->List PV×List PV
 | [],l=>([],l)
 | none::ps,p::l=>(p::(joinA ps l).1,(joinA ps l).2)
 | none::ps,[]=>(.dead::(joinA ps []).1,(joinA ps []).2)
 | some c::ps,l=>(c::(joinA ps l).1,(joinA ps l).2)
def xC:PV->List PV
 | .agg cs=>cs
 | p=> [p]
def isAgg:PV->Bool
 | .agg _=>true
 | _=>false
def unX:Sh->List PV->Option PV
 | .st _ _,cs=>some (.agg cs)
 | _,[p]=>match isAgg p with
  | true=>none
  | false=>some p
 | _,_=>none
def unXs:List Sh->List (List PV)->Option (List PV)
 | [],[]=>some []
 | sh::l,cs::xs=>match unX sh cs,unXs l xs with
  | some p,some ps=>some (p::ps)
  | _,_=>none
 | _,_=>none
def Ro.l:Ro->List Sh
 | .one sh=> [sh]
 | .tup l=>l
def Ro.encL:(o:Ro)->o.V->List PV
 | .one sh,x=> [sh.encC x]
 | .tup l,x=>plEncC l x
def Ro.decL:(o:Ro)->List PV->Option o.V
 | .one sh,[p]=>sh.decC p
 | .one _,_=>none
 | .tup l,ps=>plDecC l ps
structure Orc where
 f:FuncId
 pat:List (Option PV)
 ins:List Sh
 nx:Nat
 out:Ro
 p:PL ins->Option out.V
def Orc.args (o:Orc) (v:PL o.ins):List PV:=(joinA o.pat (plEncC o.ins v)).1
def Orc.exts (o:Orc) (v:PL o.ins):List (List PV):=(joinA o.pat (plEncC o.ins v)).2.map xC
def lnQ (nx:Nat):Bool:=Nat.ble 100 nx
def Orc.nr (o:Orc):Nat:=o.out.l.length-(nxB o.nx+nxL o.nx)
def Orc.res (o:Orc) (r:o.out.V):List PV:=(o.out.encL r).take o.nr
def gbE (ln:Bool) (es:List PV):List PV:=match ln with
 | true=>es
 | false=> []
def exE (ln:Bool) (es:List PV):List (List PV):=match ln with
 | true=> []
 | false=>es.map xC
def Orc.gbs (o:Orc) (r:o.out.V):List PV:=gbE (lnQ o.nx) ((o.out.encL r).drop o.nr)
def Orc.back (o:Orc) (r:o.out.V):List (List PV):=exE (lnQ o.nx) ((o.out.encL r).drop o.nr)
def Orc.ret (o:Orc) (r:o.out.V):PV:=gbIf (lnQ o.nx) (oneOr (o.res r)) (o.gbs r)
def sigL:List PV->List PV->Bool
 | [],[]=>true
 | p::ps,q::qs=>(isOwnR p==isOwnR q)&&sigL ps qs
 | _,_=>false
def sigE:PV->PV->Bool
 | .agg cs,.agg ds=>sigL cs ds
 | .agg _,_=>false
 | _,.agg _=>false
 | p,q=>isOwnR p==isOwnR q
def sigA:List PV->List PV->Bool
 | [],[]=>true
 | p::ps,q::qs=>sigE p q&&sigA ps qs
 | _,_=>false
def sigQ (nx:Nat) (xs bs:List PV):Bool:=match lnQ nx with
 | true=>sigA xs bs
 | false=>true
def orcK {J:Type}:List Orc->FuncId->List PV->List (List PV)->(PV->List (List PV)->Option J)->Option J
 | [],_,_,_,_=>none
 | o::l,f,args,exts,K=>match Nat.beq o.f f with
  | true=>(match splitA o.pat args with
   | some ds=>(match unXs (o.ins.drop ds.length) exts with
    | some xs=>(match plDecC o.ins (ds++xs)with
     | some v=>(match sigQ o.nx args (o.args v)with
     | true=>bd (o.p v) fun r=>K (o.ret r) (o.back r)
     | false=>orcK l f args exts K)
     | none=>orcK l f args exts K)
    | none=>orcK l f args exts K)
   | none=>orcK l f args exts K)
  | false=>orcK l f args exts K
section
variable (C:List Orc)
def Eff.ev {α J:Type}:Eff α->Sto->(α->Sto->List Nat->List Nat->Option J)->Option J
 | .ret a,s,K=>K a s [] []
 | .fail,_,_=>none
 | .rd id k,s,K=>(k (s id)).ev s fun a s' r w=>K a s' (id::r) w
 | .wr id e k,s,K=>k.ev (upd s id e) fun a s' r w=>K a s' r (id::w)
 | .guard p _ k,s,K=>gd p (k.ev s K)
 | .opt o k,s,K=>bd o fun x=>(k x).ev s K
 | .call f args exts k,s,K=>orcK C f args exts fun v ys=>(k v ys).ev s K
 | .ite b x y,s,K=>br b (x.ev s K) (y.ev s K)
def knO (kn:List (Nat×Bool)):Operand->Option Bool
 | .const (.bool b)=>some b
 | .tmp d=>look d kn
 | _=>none
def knP (kn:List (Nat×Bool)):Op->Option Bool
 | .move x=>knO kn x
 | .assign x=>knO kn x
 | .pick c x y=>match knO kn c with
  | some true=>knO kn x
  | some false=>knO kn y
  | none=>none
 | _=>none
def knS (kn:List (Nat×Bool)) (o:Oper):List (Nat×Bool):=match o.dst,knP kn o.op with
 | some d,some b=>(d,b)::kn
 | _,_=>kn
def rev {J:Type} (ops:Array Oper):List Oper->Nat->List (Nat×Bool)->Env->(List Ft->Env->Option J)->Option J
 | [],_,_,Z,K=>K [] Z
 | o::rest,i,kn,Z,K=>
  let step:=fun(t:Nat->PV) (kn:List (Nat×Bool))=>(eop o t).ev C Z.s fun v s' r w=>rev ops rest (i+1) (knS kn o) ⟨putE o.dst v t,s'⟩ fun l Z'=>K ((i,r,w)::l) Z'
  let skip:=fun(t:Nat->PV) (kn:List (Nat×Bool))=>rev ops rest (i+1) kn ⟨putE o.dst .un t,Z.s⟩ fun l Z'=>K ((i,[],[])::l) Z'
  match o.guard with
  | none=>step Z.t kn
  | some (g,want)=>match(ops[g]?).bind (·.dst)with
   | none=>skip Z.t kn
   | some d=>match Z.t d with
    | .v (.bool b)=>(match look d kn with
     | some _=>(match b,want with
      | true,true=>step Z.t kn
      | false,false=>step Z.t kn
      | true,false=>skip Z.t kn
      | false,true=>skip Z.t kn)
     | none=>(match want with
      | true=>br b (step (upd Z.t d (.v (.bool true))) ((d,true)::kn)) (skip (upd Z.t d (.v (.bool false))) ((d,false)::kn))
      | false=>br b (skip (upd Z.t d (.v (.bool true))) ((d,true)::kn)) (step (upd Z.t d (.v (.bool false))) ((d,false)::kn))))
    | .un=>skip Z.t kn
    | _=>none
def key:Code->Option Nat
 | .region id _ _=>some id
 | .seq a b=>match key a with
  | some k=>some k
  | none=>key b
 | .cond _ a b=>match key a with
  | some k=>some k
  | none=>key b
 | .block _ c=>key c
 | .loop c=>key c
 | _=>none
def lookO {α:Type} (k:Option Nat) (l:List (Nat×α)):Option α:=match k with
 | some k=>look k l
 | none=>none
structure Tab where
 r:List (Nat×Shape)
 s:List (Nat×Bool×Shape)
 l:List (Nat×Bool×Shape×Nat×Shape)
def nilCmp (o:Oper):Option (Operand×Nat):=match o.op,o.guard,o.dst with
 | .binOp .eql t x (.const (.slice none 0 0)) _,none,some d=>match slK t with
  | some _=>some (x,d)
  | none=>none
 | _,_,_=>none
def spl:List Oper->Option (List Oper×Oper)
 | []=>none
 | [o]=>some ([],o)
 | o::o2::l=>match spl (o2::l)with
  | some (i,z)=>some (o::i,z)
  | none=>none
def nilLast (draw:Bool) (l:List Oper):Option (List Oper×Operand×Nat):=match draw,spl l with
 | false,some (i,o)=>match nilCmp o with
  | some (x,d)=>some (i,x,d)
  | none=>none
 | _,_=>none
variable (T:Tab) (nx fuel:Nat)
noncomputable def cev:Code->{J:Type}->Env->(Exit->Env->Option J)->Option J
 | .skip,_,Z,K=>K .normal Z
 | .label _,_,Z,K=>K .normal Z
 | .exit id,_,Z,K=>K (.exit id) Z
 | .seq x y,J,Z,K=>match lookO (key y) T.s with
  | none=>cev x Z fun e Z'=>match e with
   | .normal=>cev y Z' K
   | e=>K e Z'
  | some (false,sh)=>bd (cev x (J:=EL sh.es) Z fun e Z'=>match e with
   | .normal=>sh.dec nx Z'
   | _=>none) fun v=>cev y (sh.enc v) K
  | some (true,sh)=>jn (cev x (J:=EL sh.es⊕J) Z fun e Z'=>match e with
   | .normal=>(sh.dec nx Z').map .inl
   | e=>(K e Z').map .inr) fun v=>cev y (sh.enc v) K
 | .cond c x y,_,Z,K=>match opd Z.t c with
  | .v (.bool b)=>br b (cev x Z K) (cev y Z K)
  | _=>none
 | .block id c,_,Z,K=>cev c Z fun e Z'=>match e with
  | .exit id'=>(match Nat.beq id' id with
   | true=>K .normal Z'
   | false=>K (.exit id') Z')
  | e=>K e Z'
 | .loop c,J,Z,K=>match lookO (key c) T.l with
  | none=>none
  | some (false,si,id,so)=>(match si.dec nx Z with
   | none=>none
   | some v=>bd (loopF (fun v=>cev c (J:=EL si.es⊕EL so.es) (si.enc v) fun e Z'=>match e with
    | .normal=>(si.dec nx Z').map .inl
    | .exit id'=>(match Nat.beq id' id with
     | true=>(so.dec nx Z').map .inr
     | false=>none)
    | _=>none) fuel v) fun o=>K (.exit id) (so.enc o))
  | some (true,si,id,so)=>(match si.dec nx Z with
   | none=>none
   | some v=>jn (loopF (fun v=>cev c (J:=EL si.es⊕(EL so.es⊕J)) (si.enc v) fun e Z'=>match e with
    | .normal=>(si.dec nx Z').map .inl
    | .exit id'=>(match Nat.beq id' id with
     | true=>(so.dec nx Z').map fun o=> .inr (.inl o)
     | false=>(K (.exit id') Z').map fun r=> .inr (.inr r))
    | e=>(K e Z').map fun r=> .inr (.inr r)) fuel v) fun o=>K (.exit id) (so.enc o))
 | .region id ops draw,_,Z,K=>match nilLast draw ops.toList with
  | some (i,x,d)=>rev C ops i 0 [] Z fun _ Z'=>(match opd Z'.t x with
   | .row _ k l=>cmpN l (K .normal ⟨putE (some d) (.v (.bool true)) Z'.t,Z'.s⟩) (K .normal ⟨putE (some d) (.v (.bool false)) Z'.t,Z'.s⟩)
   | .nil=>K .normal ⟨putE (some d) (.v (.bool true)) Z'.t,Z'.s⟩
   | _=>none)
  | none=>match look id T.r with
  | none=>rev C ops ops.toList 0 [] Z fun ft Z'=>match draw with
   | false=>K .normal Z'
   | true=>(match orderOk ops ft with
    | true=>K .normal Z'
    | false=>none)
  | some sh=>bd (rev (J:=EL sh.es) C ops ops.toList 0 [] Z fun ft Z'=>match draw with
   | false=>sh.dec nx Z'
   | true=>(match orderOk ops ft with
    | true=>sh.dec nx Z'
    | false=>none)) fun v=>K .normal (sh.enc v)
 | .ret,_,Z,K=>K .ret Z
 | _,_,_,_=>none
def unR:List Sh->Nat->List PV->Option (List PV)
 | [],_,[]=>some []
 | _::l,n+1,q::qs=>match unR l n qs with
  | some r=>some (q::r)
  | none=>none
 | sh::l,0,q::qs=>match q with
  | .agg cs=>(match unX sh cs,unR l 0 qs with
   | some p,some r=>some (p::r)
   | _,_=>none)
  | _=>none
 | _,_,_=>none
def unE (ln:Bool) (l:List Sh):List PV->Option (List PV)
 | .agg bs::qs=>(match ln with
  | true=>(match qs with
   | []=>(match bs.any isAgg with
    | false=>some bs
    | true=>none)
   | _::_=>none)
  | false=>(match bs with
   | []=>unR l 0 qs
   | _::_=>none))
 | _=>none
def unQ (ln:Bool):List Sh->Nat->List PV->Option (List PV)
 | l,0,qs=>unE ln l qs
 | _::l,n+1,q::qs=>(match unQ ln l n qs with
  | some r=>some (q::r)
  | none=>none)
 | _,_,_=>none
def outR (Z:Env):List ResultVar->List Nat
 | []=> []
 | .tmp t::l=>refsA [Z.t t]++outR Z l
 | .cell p _::l=>(match Z.t p with
  | .ptr id _ _ _=>refsL (boxC Z id)
  | _=> [])++outR Z l
def outB (Z:Env):Nat->List Nat
 | 0=> []
 | n+1=>outB Z n++refsL (boxC Z n)
def lents:Nat->List Nat
 | 0=> []
 | n+1=>lents n++ [50+n]
def outE (nx:Nat) (rs:List ResultVar) (Z:Env):Env:=unfEnv (outR Z rs++(outB Z (nxB nx)++lents (nxL nx))) Z
def finE (nt nx:Nat) (rs:List ResultVar) (nxe:Nat) (ls:List PV) (out:Ro) (Z:Env):Option out.V:=match resL nt Z rs with
 | none=>none
 | some vs=>match extC Z 0 nxe with
  | none=>none
  | some cs=>match close1LK Z.s (vs++ .agg ls::cs.map .agg)with
   | none=>none
   | some (qs,A,B)=>match nodN A&&disjL A B with
    | true=>(match unQ (lnQ nx) out.l (out.l.length-(nxB nx+nxL nx)) qs with
     | some rs=>out.decL rs
     | none=>none)
    | false=>none
noncomputable def fev (fn:Func) (pat:List (Option PV)) (ins:List Sh) (out:Ro) (v:PL ins):Option out.V:=match fn.body with
 | none=>none
 | some c=>cev C T nx fuel c (initX (lnQ nx) (joinA pat (plEncC ins v)).1 ((joinA pat (plEncC ins v)).2.map xC)) fun e Z=>match e with
  | .goto _=>none
  | .exit _=>none
  | .panic _=>none
  | .outgrown=>none
  | _=>finE fn.ntmps nx fn.results.toList ((joinA pat (plEncC ins v)).2.map xC).length (lentL (lnQ nx) (joinA pat (plEncC ins v)).1) out (outE nx fn.results.toList Z)
end
open Go.RowKit
theorem leafC_wk {own:Option Nat} {x:LeafI} {lf:Leaf} (h:leafC own p=some x) (hi:InL x lf):wkS p (cellC own lf):=by
 unfold leafC at h
 split at h
 ·cases own with
  | some id=>cases h
  | none=>cases h;exact .inr (.inr (.inr (.inl ⟨_,lf,rfl,rfl,hi⟩)))
 ·cases h;obtain⟨k,rfl⟩:=hi
  cases own with
  | some id=>
   show wkS .nil (ownR id k [])
   unfold ownR
   split
   ·exact .inr (.inr (.inr (.inr (.nil k))))
   ·exact .inr (.inl ⟨rfl,true,k,rfl⟩)
  | none=>exact .inr (.inl ⟨rfl,false,k,rfl⟩)
 ·rename_i k l
  split at h
  case h_2=>cases h
  rename_i hk
  cases h;have e:lf=_:=hi;subst e
  cases own with
  | some id=>
   show wkS (.row true k l) (ownR id k l)
   unfold ownR
   simp only[ownOk]at hk
   split
   ·rename_i hd
    rw[hd]at hk
    exact .inr (.inr (.inr (.inr (.flat k l hk))))
   ·exact .inl rfl
  | none=>exact .inr (.inr (.inl ⟨_,_,rfl,rfl⟩))
 ·rename_i k l
  cases h;have e:lf=_:=hi;subst e
  cases own with
  | some id=>
   show wkS (.drow k l) (ownR id k l)
   unfold ownR
   split
   ·exact .inl rfl
   ·exact .inr (.inr (.inr (.inr (.own k l))))
  | none=>exact .inr (.inr (.inr (.inr (.row k l))))
 ·cases own with
  | some id=>cases h
  | none=>cases h;have e:lf=_:=hi;subst e;exact .inl rfl
 ·cases h
theorem leafsC_wk {js:List (Nat×Nat)}:∀{ps:List PV} {ls:List LeafI} {lfs:List Leaf} {j:Nat},leafsC js j ps=some ls->All2 InL ls lfs->All2 wkS ps (stoR js j lfs)
 | [],ls,lfs,j,h,hi=>by
  cases h
  cases lfs with
  | nil=>trivial
  | cons _ _=>exact hi.elim
 | p::ps,ls,lfs,j,h,hi=>by
  unfold leafsC at h
  split at h
  ·rename_i a l h1 h2
   cases h
   cases lfs with
   | nil=>exact hi.elim
   | cons lf lfs=>
    exact⟨leafC_wk h1 hi.1,leafsC_wk h2 hi.2⟩
  ·cases h
theorem eqC0_spec (h:eqC0 p q=true):p=q:=by
 unfold eqC0 at h
 split at h
 ·simp only[Bool.and_eq_true]at h
  obtain⟨h1,h2,h3,h4⟩:=h
  rw[Nat.eq_of_beq_eq_true h1,Nat.eq_of_beq_eq_true h2,Nat.eq_of_beq_eq_true h3,Nat.eq_of_beq_eq_true h4]
 ·rfl
 ·rfl
 ·cases h
theorem eqCL_spec:∀{l m:List PV},eqCL l m=true->l=m
 | [],[],_=>rfl
 | p::ps,q::qs,h=>by
  unfold eqCL at h
  rw[Bool.and_eq_true]at h
  rw[eqC0_spec h.1,eqCL_spec h.2]
 | [],_::_,h=>by cases h
 | _::_,[],h=>by cases h
theorem Sh.decC_wk:∀{sh:Sh} {p:PV} {x:sh.V},sh.decC p=some x->wk1 p (sh.encC x):=by
 intro sh p x h
 unfold Sh.decC at h
 split at h
 ·rename_i k k' n
  split at h
  ·rename_i e;subst e;cases h;exact .inl (.inl rfl)
  ·cases h
 ·cases h;exact .inl (.inl rfl)
 ·cases h;exact .inl (.inl rfl)
 ·split at h
  ·rename_i y hy
   exact .inl (leafC_wk hy (LeafI.list_spec h))
  ·cases h
 ·split at h
  ·rename_i y hy
   exact .inl (leafC_wk hy (LeafI.list_spec h))
  ·cases h
 ·split at h
  ·rename_i l hl
   exact .inr ⟨_,_,rfl,rfl,leafsC_wk hl (ofLeaves_spec h)⟩
  ·cases h
 ·split at h
  ·rename_i l e1 e2
   cases h
   obtain⟨rfl,rfl⟩:=castL_some e2
   obtain rfl:=Nat.eq_of_beq_eq_true e1
   exact .inl (.inl rfl)
  ·cases h
 ·rename_i f caps f' ps
  split at h
  ·rename_i e
   cases h
   rw[Bool.and_eq_true]at e
   obtain rfl:=Nat.eq_of_beq_eq_true e.1
   obtain rfl:=eqCL_spec e.2
   exact .inl (.inl rfl)
  ·cases h
 ·cases h
theorem plDecC_wk:∀{l:List Sh} {ps:List PV} {x:PL l},plDecC l ps=some x->All2 wk1 ps (plEncC l x):=by
 intro l
 induction l with
 | nil=>
  intro ps x h
  cases ps with
  | nil=>trivial
  | cons _ _=>cases h
 | cons a l ih=>
  intro ps x h
  cases l with
  | nil=>
   match ps,h with
   | [p],h=>exact⟨Sh.decC_wk (sh:=a) h,trivial⟩
   | [],h=>cases h
   | _::_::_,h=>cases h
  | cons b l=>
   match ps,h with
   | p::ps,h=>
    unfold plDecC at h
    split at h
    ·rename_i x1 y1 h1 h2
     cases h
     exact⟨Sh.decC_wk h1,ih h2⟩
    ·cases h
   | [],h=>cases h
theorem Ro.decL_wk {o:Ro} {r:o.V} (h:o.decL qs=some r):All2 wk1 qs (o.encL r):=by
 unfold Ro.decL at h
 split at h
 ·exact⟨Sh.decC_wk h,trivial⟩
 ·cases h
 ·exact plDecC_wk h
theorem eqC_spec (h:eqC p q=true):p=q:=by
 unfold eqC at h
 split at h
 ·rw[Bool.and_eq_true]at h
  rw[Nat.eq_of_beq_eq_true h.1,eqCL_spec h.2]
 ·exact eqC0_spec h
theorem wk1_refl (p:PV):wk1 p p:= .inl (.inl rfl)
theorem joinA_wk:∀{pat:List (Option PV)} {args ds zs es:List PV},splitA pat args=some ds->All2 wk1 (ds++zs) es->All2 wk1 args (joinA pat es).1/\All2 wk1 zs (joinA pat es).2
 | [],[],ds,zs,es,h,hw=>by cases h;exact⟨trivial,hw⟩
 | [],_::_,_,_,_,h,_=>by cases h
 | none::ps,[],_,_,_,h,_=>by cases h
 | some c::ps,[],_,_,_,h,_=>by cases h
 | none::ps,p::l,ds,zs,es,h,hw=>by
  unfold splitA at h
  split at h
  ·rename_i ds' h1
   cases h
   cases es with
   | nil=>exact hw.elim
   | cons e es=>
    have:=joinA_wk h1 hw.2
    exact⟨⟨hw.1,this.1⟩,this.2⟩
  ·cases h
 | some c::ps,p::l,ds,zs,es,h,hw=>by
  unfold splitA at h
  split at h
  ·rename_i hc
   obtain rfl:=eqC_spec hc
   have:=joinA_wk h hw
   have e:joinA (some p::ps) es=(p::(joinA ps es).1,(joinA ps es).2):=by cases es<;>rfl
   rw[e]
   exact⟨⟨wk1_refl _,this.1⟩,this.2⟩
  ·cases h
theorem isAgg_no (h:isAgg p=false):∀cs,p≠ .agg cs:=fun cs e=>by rw[e]at h;cases h
theorem wk1_na (h:isAgg p=false) (hw:wk1 p q):wkS p q:=by
 rcases hw with h'|⟨cs,ds,e,_,_⟩
 ·exact h'
 ·exact absurd e (isAgg_no h cs)
theorem wkS_refl (p:PV):wkS p p:= .inl rfl
theorem All2_refl {R:PV->PV->Prop} (h:∀p,R p p):∀{l:List PV},All2 R l l
 | []=>trivial
 | p::l=>⟨h p,All2_refl h⟩
theorem wkS_agg {cs:List PV} (h:wkS (.agg cs) q):q= .agg cs:=by
 rcases h with h|⟨h,_⟩ |⟨_,_,h,_⟩ |⟨_,_,h,_⟩ | h
 ·exact h.symm
 ·cases h
 ·cases h
 ·cases h
 ·cases h
theorem wk1_agg {cs:List PV} (h:wk1 (.agg cs) q):∃ds,q= .agg ds/\All2 wkS cs ds:=by
 rcases h with h|⟨cs',ds,e,h,hw⟩
 ·exact⟨cs,wkS_agg h,All2_refl wkS_refl⟩
 ·cases e;exact⟨ds,h,hw⟩
theorem wkS_na (h:isAgg p=false) (hw:wkS p q):isAgg q=false:=by
 rcases hw with h'|⟨_,_,_,h'⟩ |⟨_,_,_,h'⟩ |⟨_,lf,_,h',_⟩ | h'
 ·rw[<-h'];exact h
 ·rw[h'];rfl
 ·rw[h'];rfl
 ·rw[h'];cases lf<;>rfl
 ·cases h'<;>rfl
theorem xC_na (h:isAgg q=false):xC q=[q]:=by
 cases q<;>first|rfl|cases h
theorem unX_wk {sh:Sh} {cs:List PV} (h:unX sh cs=some p) (hw:wk1 p q):All2 wkS cs (xC q):=by
 unfold unX at h
 split at h
 ·cases h
  obtain⟨ds,rfl,hd⟩:=wk1_agg hw
  exact hd
 ·split at h
  ·cases h
  ·rename_i hna
   cases h
   have hna:isAgg p=false:=by simpa using hna
   have hs:=wk1_na hna hw
   rw[xC_na (wkS_na hna hs)]
   exact⟨hs,trivial⟩
 ·cases h
theorem unXs_wk:∀{shs:List Sh} {xs:List (List PV)} {ps qs:List PV},unXs shs xs=some ps->All2 wk1 ps qs->All2 (All2 wkS) xs (qs.map xC)
 | [],[],ps,qs,h,hw=>by
  cases h
  cases qs with
  | nil=>trivial
  | cons _ _=>exact hw.elim
 | [],_::_,_,_,h,_=>by cases h
 | _::_,[],_,_,h,_=>by cases h
 | sh::l,cs::xs,ps,qs,h,hw=>by
  unfold unXs at h
  split at h
  ·rename_i p ps' h1 h2
   cases h
   cases qs with
   | nil=>exact hw.elim
   | cons q qs=>exact⟨unX_wk h1 hw.1,unXs_wk h2 hw.2⟩
  ·cases h
theorem unR_wk:∀{shs:List Sh} {n:Nat} {qs rs es:List PV},unR shs n qs=some rs->All2 wk1 rs es->All2 wk1 qs (es.take n++((es.drop n).map xC).map .agg)
 | [],n,[],rs,es,h,hw=>by
  cases h
  cases es with
  | nil=>simp;trivial
  | cons _ _=>exact hw.elim
 | [],_,_::_,_,_,h,_=>by cases h
 | _::_,0,[],_,_,h,_=>by cases h
 | _::_,_+1,[],_,_,h,_=>by cases h
 | sh::l,n+1,q::qs,rs,es,h,hw=>by
  unfold unR at h
  split at h
  ·rename_i r h1
   cases h
   cases es with
   | nil=>exact hw.elim
   | cons e es=>exact⟨hw.1,unR_wk h1 hw.2⟩
  ·cases h
 | sh::l,0,q::qs,rs,es,h,hw=>by
  unfold unR at h
  split at h
  ·rename_i cs
   split at h
   ·rename_i p r h1 h2
    cases h
    cases es with
    | nil=>exact hw.elim
    | cons e es=>
     have ih:=unR_wk h2 hw.2
     exact⟨.inr ⟨_,_,rfl,rfl,unX_wk h1 hw.1⟩,ih⟩
   ·cases h
  ·cases h
theorem unR_wk0 {shs:List Sh} {rs:List PV} (h:unR shs 0 qs=some rs) (hw:All2 wk1 rs es):All2 wk1 qs ((es.map xC).map .agg):=unR_wk (n:=0) h hw
theorem wk1_aggL {bs:List PV} (h:bs.any isAgg=false) (hw:All2 wk1 bs es):All2 wkS bs es:=by
 induction bs generalizing es with
 | nil=>cases es with
  | nil=>trivial
  | cons _ _=>exact hw.elim
 | cons b bs ih=>cases es with
  | nil=>exact hw.elim
  | cons e es=>
   rw[List.any_cons,Bool.or_eq_false_iff]at h
   exact⟨wk1_na h.1 hw.1,ih h.2 hw.2⟩
theorem unE_wk {ln:Bool} {l:List Sh} {rs:List PV} (h:unE ln l qs=some rs) (hw:All2 wk1 rs es):All2 wk1 qs (.agg (gbE ln es)::(exE ln es).map .agg):=by
 match qs,h with
 | .agg bs::qs1,h=>
  cases ln with
  | true=>
   match qs1,h with
   | [],h=>
    have h:(match bs.any isAgg with|false=>some bs|true=>none)=some rs:=h
    cases hb:bs.any isAgg with
    | true=>rw[hb]at h;cases h
    | false=>
     rw[hb]at h
     cases h
     exact⟨.inr ⟨_,_,rfl,rfl,wk1_aggL hb hw⟩,trivial⟩
   | _::_,h=>cases h
  | false=>
   match bs,h with
   | [],h=>exact⟨.inr ⟨[],[],rfl,rfl,trivial⟩,unR_wk0 h hw⟩
   | _::_,h=>cases h
theorem unQ_wk {ln:Bool}:∀{shs:List Sh} {n:Nat} {qs rs es:List PV},unQ ln shs n qs=some rs->All2 wk1 rs es->All2 wk1 qs (es.take n++ .agg (gbE ln (es.drop n))::(exE ln (es.drop n)).map .agg)
 | shs,0,qs,rs,es,h,hw=>by
  have h:unE ln shs qs=some rs:=by cases shs<;>exact h
  exact unE_wk h hw
 | [],n+1,qs,rs,es,h,hw=>by cases h
 | _::_,n+1,[],rs,es,h,hw=>by cases h
 | _::l,n+1,q::qs,rs,es,h,hw=>by
  unfold unQ at h
  split at h
  ·rename_i r h1
   cases h
   cases es with
   | nil=>exact hw.elim
   | cons e es=>exact⟨hw.1,unQ_wk h1 hw.2⟩
  ·cases h
theorem sigL_spec:∀{cs ds:List PV},sigL cs ds=true->cs.map isOwnR=ds.map isOwnR
 | [],[],_=>rfl
 | c::cs,d::ds,h=>by
  have h:((isOwnR c==isOwnR d)&&sigL cs ds)=true:=h
  rw[Bool.and_eq_true]at h
  rw[List.map_cons,List.map_cons,sigL_spec h.2,eq_of_beq h.1]
 | [],_::_,h=>by cases h
 | _::_,[],h=>by cases h
theorem sigE_spec (h:sigE p q=true):sig1 p=sig1 q:=by
 by_cases ha:∃cs,p= .agg cs
 ·obtain⟨cs,rfl⟩:=ha
  by_cases hb:∃ds,q= .agg ds
  ·obtain⟨ds,rfl⟩:=hb
   show(true,_)=(true,_)
   rw[sigL_spec h]
  ·exfalso
   cases q<;>first|(cases h;done)|exact hb ⟨_,rfl⟩
 ·have e2:sig1 p=(false,[isOwnR p]):=by cases p<;>first|rfl|exact absurd ⟨_,rfl⟩ ha
  have hb:¬∃ds,q= .agg ds:=by
   rintro⟨ds,rfl⟩
   cases p<;>first|(cases h;done)|exact ha ⟨_,rfl⟩
  have e3:sig1 q=(false,[isOwnR q]):=by cases q<;>first|rfl|exact absurd ⟨_,rfl⟩ hb
  have h:(isOwnR p==isOwnR q)=true:=by
   unfold sigE at h
   split at h
   ·exact absurd ⟨_,rfl⟩ ha
   ·exact absurd ⟨_,rfl⟩ ha
   ·exact absurd ⟨_,rfl⟩ hb
   ·exact h
  rw[e2,e3,eq_of_beq h]
theorem sigA_spec:∀{cs ds:List PV},sigA cs ds=true->cs.map sig1=ds.map sig1
 | [],[],_=>rfl
 | c::cs,d::ds,h=>by
  have h:(sigE c d&&sigA cs ds)=true:=h
  rw[Bool.and_eq_true]at h
  rw[List.map_cons,List.map_cons,sigA_spec h.2,sigE_spec h.1]
 | [],_::_,h=>by cases h
 | _::_,[],h=>by cases h
theorem oneOr_gb {l:List PV} (h:∀p∈l,isGb p=false):isGb (oneOr l)=false:=by
 match l,h with
 | [],_=>rfl
 | [p],h=>exact h p (by simp)
 | _::_::_,_=>rfl
theorem encC_gb {sh:Sh} {x:sh.V}:isGb (sh.encC x)=false:=by
 cases sh<;>try rfl
 case own k id=>show isGb (ownR id k x)=false;unfold ownR;split<;>rfl
theorem plEncC_gb:∀{l:List Sh} {x:PL l},∀p∈plEncC l x,isGb p=false:=by
 intro l
 induction l with
 | nil=>intro x p hp;cases hp
 | cons a l ih=>
  intro x p hp
  cases l with
  | nil=>rw[List.mem_singleton.1 hp];exact encC_gb
  | cons b l=>
   rcases List.mem_cons.1 hp with rfl|hp
   ·exact encC_gb
   ·exact ih p hp
theorem Orc.ret_gb {o:Orc} {r:o.out.V} (h:lnQ o.nx=false):isGb (o.ret r)=false:=by
 unfold Orc.ret
 rw[h]
 refine oneOr_gb fun p hp=> ?_
 have hp:=List.mem_of_mem_take hp
 obtain⟨f,pat,ins,nx,out,pf⟩:=o
 cases out with
 | one sh=>rw[List.mem_singleton.1 hp];exact encC_gb
 | tup l=>exact plEncC_gb p hp
theorem sigQ_spec {o:Orc} {r:o.out.V} {avs bs:List PV} (h:sigQ o.nx avs bs=true):isGb (o.ret r)=false∨avs.map sig1=bs.map sig1:=by
 unfold sigQ at h
 split at h
 ·exact .inr (sigA_spec h)
 ·rename_i hl;exact .inl (Orc.ret_gb hl)
section
variable {P:Program} {G:Nat} {E:World->Prop}
def Ctr (P:Program) (G:Nat) (E:World->Prop) (o:Orc):Prop:=∀v r,o.p v=some r->PCalls P G E o.f (o.args v) (o.exts v) (o.ret r) (o.back r)
theorem bd_some {J:Type} {o:Option α} {f:α->Option J} {r:J} (h:bd o f=some r):∃a,o=some a/\f a=some r:=Option.bind_eq_some_iff.1 h
theorem orcK_sound {J:Type} {f:FuncId} {args:List PV} {exts:List (List PV)} {K:PV->List (List PV)->Option J} {r:J}:∀{C:List Orc},(∀o∈C,Ctr P G E o)->orcK C f args exts K=some r->∃v ys,PCalls P G E f args exts v ys/\K v ys=some r
 | [],_,h=>by cases h
 | o::C,hC,h=>by
  have ih:=orcK_sound (f:=f) (args:=args) (exts:=exts) (r:=r) (C:=C) (K:=K) fun o ho=>hC o (List.mem_cons_of_mem _ ho)
  unfold orcK at h
  split at h
  ·rename_i hf
   split at h
   ·rename_i ds hds
    split at h
    ·rename_i xs hxs
     split at h
     ·rename_i v hv
      split at h
      ·rename_i hsig
       obtain⟨x,h3,h4⟩:=bd_some h
       obtain rfl:=Nat.eq_of_beq_eq_true hf
       obtain⟨w1,w2⟩:=joinA_wk hds (plDecC_wk hv)
       exact⟨_,_,(hC o (List.mem_cons_self ..) v x h3).argsX w1 (unXs_wk hxs w2) (sigQ_spec hsig),h4⟩
      ·exact ih h
     ·exact ih h
    ·exact ih h
   ·exact ih h
  ·exact ih h
theorem br_some {J:Type} {b:Bool} {x y:Option J} {r:J} (h:br b x y=some r):(b=true/\x=some r)∨(b=false/\y=some r):=by
 unfold br at h
 cases b<;>simp at h
 ·exact .inr ⟨rfl,h⟩
 ·exact .inl ⟨rfl,h⟩
theorem cmpN_some {J:Type} {l:List α} {x y:Option J} {r:J} (h:cmpN l x y=some r):y=some r/\(l=[]->x=some r):=by
 unfold cmpN at h
 rcases br_some h with⟨h1,h2⟩ |⟨h1,h2⟩
 ·split at h2
  ·rename_i e;exact⟨h2,fun _=>e.trans h2⟩
  ·cases h2
 ·exact⟨h2,fun e=>by subst e;cases h1⟩
theorem spl_spec:∀{l i:List Oper} {o:Oper},spl l=some (i,o)->l=i++ [o]
 | [],_,_,h=>by cases h
 | [o],_,_,h=>by cases h;rfl
 | o::o2::l,i,z,h=>by
  unfold spl at h
  split at h
  ·rename_i i' z' h1;cases h;rw[spl_spec h1];rfl
  ·cases h
theorem nilCmp_spec (h:nilCmp o=some (x,d)):∃t t' k,o.op= .binOp .eql t x (.const (.slice none 0 0)) t'/\o.guard=none/\o.dst=some d/\slK t=some k:=by
 unfold nilCmp at h
 split at h
 ·rename_i t x' t' d' h1 h2 h3
  split at h
  ·rename_i k hk;cases h;exact⟨t,t',k,h1,h2,h3,hk⟩
  ·cases h
 ·cases h
theorem nilLast_spec {draw:Bool} {l i:List Oper} (h:nilLast draw l=some (i,x,d)):draw=false/\∃o t t' k,l=i++ [o]/\o.op= .binOp .eql t x (.const (.slice none 0 0)) t'/\o.guard=none/\o.dst=some d/\slK t=some k:=by
 unfold nilLast at h
 split at h
 ·rename_i i' o hs
  split at h
  ·rename_i x' d' hc
   cases h
   obtain⟨t,t',k,q⟩:=nilCmp_spec hc
   exact⟨rfl,o,t,t',k,spl_spec hs,q⟩
  ·cases h
 ·cases h
theorem jn_some {V J:Type} {o:Option (V⊕J)} {f:V->Option J} {r:J} (h:jn o f=some r):(∃v,o=some (.inl v)/\f v=some r)∨o=some (.inr r):=by
 unfold jn at h
 obtain⟨s,h1,h2⟩:=bd_some h
 cases s with
 | inl v=>exact .inl ⟨v,h1,h2⟩
 | inr x=>cases h2;exact .inr h1
variable {C:List Orc}
theorem Eff.ev_sound {α J:Type} (hC:∀o∈C,Ctr P G E o):∀(e:Eff α) (s:Sto) (K:α->Sto->List Nat->List Nat->Option J) (res:J),e.ev C s K=some res->∃a s' r w,e.Run (PCalls P G E) s a s' r w/\K a s' r w=some res
 | .ret a,s,K,res,h=>⟨a,s,[],[],⟨rfl,rfl,rfl,rfl⟩,h⟩
 | .fail,_,_,_,h=>by cases h
 | .rd id k,s,K,res,h=>by
  obtain⟨a,s',r,w,h1,h2⟩:=Eff.ev_sound hC (k (s id)) s _ res h
  exact⟨a,s',id::r,w,⟨r,rfl,h1⟩,h2⟩
 | .wr id e k,s,K,res,h=>by
  obtain⟨a,s',r,w,h1,h2⟩:=Eff.ev_sound hC k (upd s id e) _ res h
  exact⟨a,s',r,id::w,⟨w,rfl,h1⟩,h2⟩
 | .guard p d k,s,K,res,h=>by
  obtain⟨hp,h⟩:=gd_some h
  obtain⟨a,s',r,w,h1,h2⟩:=Eff.ev_sound hC k s _ res h
  exact⟨a,s',r,w,⟨hp,h1⟩,h2⟩
 | .opt o k,s,K,res,h=>by
  obtain⟨x,hx,h⟩:=bd_some h
  obtain⟨a,s',r,w,h1,h2⟩:=Eff.ev_sound hC (k x) s _ res h
  exact⟨a,s',r,w,⟨x,hx,h1⟩,h2⟩
 | .call f args exts k,s,K,res,h=>by
  obtain⟨v,ys,hv,h⟩:=orcK_sound hC h
  obtain⟨a,s',r,w,h1,h2⟩:=Eff.ev_sound hC (k v ys) s _ res h
  exact⟨a,s',r,w,⟨v,ys,hv,h1⟩,h2⟩
 | .ite b x y,s,K,res,h=>by
  rcases br_some h with⟨hb,h⟩ |⟨hb,h⟩
  ·obtain⟨a,s',r,w,h1,h2⟩:=Eff.ev_sound hC x s _ res h
   exact⟨a,s',r,w,.inl ⟨hb,h1⟩,h2⟩
  ·obtain⟨a,s',r,w,h1,h2⟩:=Eff.ev_sound hC y s _ res h
   exact⟨a,s',r,w,.inr ⟨hb,h1⟩,h2⟩
theorem upd_id {f:Nat->α} {a:α} (h:f i=a):upd f i a=f:=by
 funext j
 unfold upd
 split
 ·rename_i e;rw[e,h]
 ·rfl
theorem rev_sound {J:Type} {ops:Array Oper} (hC:∀o∈C,Ctr P G E o):∀(rest:List Oper) (i:Nat) (kn:List (Nat×Bool)) (Z:Env) (K:List Ft->Env->Option J) (res:J),(∀j o,rest[j]?=some o->ops[i+j]?=some o)->rev C ops rest i kn Z K=some res->
  ∃l Z',ORun (PCalls P G E) eop ops l Z Z'/\l.map (·.1)=List.range' i rest.length/\K l Z'=some res
 | [],i,kn,Z,K,res,_,h=>⟨[],Z,.nil Z,rfl,h⟩
 | o::rest,i,kn,Z,K,res,hi,h=>by
  have h0:ops[i]?=some o:=hi 0 o rfl
  have hi':∀j o',rest[j]?=some o'->ops[i+1+j]?=some o':=fun j o' hj=>by have:=hi (j+1) o' (by simpa using hj);rw[show i+1+j=i+(j+1) by omega];exact this
  have step:∀t kn',t=Z.t->wantedP ops o Z.t=some true->((eop o t).ev C Z.s fun v s' r w=>rev C ops rest (i+1) kn' ⟨putE o.dst v t,s'⟩ fun l Z'=>K ((i,r,w)::l) Z')=some res->
    ∃l Z',ORun (PCalls P G E) eop ops l Z Z'/\l.map (·.1)=List.range' i (o::rest).length/\K l Z'=some res:=by
   rintro t kn' rfl hw h
   obtain⟨v,s',r,w,h1,h2⟩:=Eff.ev_sound hC _ _ _ _ h
   obtain⟨l,Z',h3,h4,h5⟩:=rev_sound hC rest (i+1) _ _ _ res hi' h2
   exact⟨_,Z',.cons h0 (.inl ⟨hw,v,s',h1,rfl⟩) h3,by simp[h4,List.range'_succ],h5⟩
  have skip:∀t kn',t=Z.t->wantedP ops o Z.t=some false->(rev C ops rest (i+1) kn' ⟨putE o.dst .un t,Z.s⟩ fun l Z'=>K ((i,[],[])::l) Z')=some res->
    ∃l Z',ORun (PCalls P G E) eop ops l Z Z'/\l.map (·.1)=List.range' i (o::rest).length/\K l Z'=some res:=by
   rintro t kn' rfl hw h
   obtain⟨l,Z',h3,h4,h5⟩:=rev_sound hC rest (i+1) _ _ _ res hi' h
   exact⟨_,Z',.cons h0 (.inr ⟨hw,rfl,rfl,rfl⟩) h3,by simp[h4,List.range'_succ],h5⟩
  unfold rev at h
  simp only at h
  split at h
  ·rename_i hg
   exact step _ _ rfl (by unfold wantedP;rw[hg]) h
  ·rename_i g want hg
   split at h
   ·rename_i hd
    exact skip _ _ rfl (by unfold wantedP;rw[hg];simp only[hd]) h
   ·rename_i d hd
    split at h
    ·rename_i b hb
     have hw:wantedP ops o Z.t=some (b==want):=by unfold wantedP;rw[hg];simp only[hd,hb]
     split at h
     ·split at h
      ·exact step _ _ rfl hw h
      ·exact step _ _ rfl hw h
      ·exact skip _ _ rfl hw h
      ·exact skip _ _ rfl hw h
     ·cases want with
      | true=>
       rcases br_some h with⟨hbt,h⟩ |⟨hbt,h⟩ <;>subst hbt
       ·exact step _ _ (upd_id hb) hw h
       ·exact skip _ _ (upd_id hb) hw h
      | false=>
       rcases br_some h with⟨hbt,h⟩ |⟨hbt,h⟩ <;>subst hbt
       ·exact skip _ _ (upd_id hb) hw h
       ·exact step _ _ (upd_id hb) hw h
    ·rename_i hb
     exact skip _ _ rfl (by unfold wantedP;rw[hg];simp only[hd,hb]) h
    ·cases h
theorem XW.gq {c:Code} {Q:Exit->Env->Prop} (h:XW P X nt c Z fun e Z'=>∃Z2,Gh X nt Z' Z2/\Q e Z2):XW P X nt c Z Q:=fun a w hg=>
 wp_mono (h a w hg) fun e a' w' ⟨Z',h1,Z2,h2,h3⟩=>⟨Z2,h2 a' w' h1,h3⟩
theorem nodN_B:∀{l:List Nat},nodN l=true->nodupB l=true
 | [],_=>rfl
 | x::l,h=>by
  simp only[nodN,nodupB,Bool.and_eq_true,Bool.not_eq_true',List.any_eq_false]at h⊢
  refine⟨?_,nodN_B h.2⟩
  simp only[List.contains_eq_any_beq,List.any_eq_false]
  intro y hy e
  have:=h.1 y hy
  exact this (by rw[beq_iff_eq]at e;rw[e];exact Nat.beq_refl _)
def codeB (nt:Nat):Code->Bool
 | .region _ ops _=>opsB nt ops.toList
 | .seq x y=>codeB nt x&&codeB nt y
 | .cond c x y=>opndB nt c&&(codeB nt x&&codeB nt y)
 | .block _ c=>codeB nt c
 | .loop c=>codeB nt c
 | _=>true
theorem map_inl {V J:Type} {o:Option V} {v:V} (h:o.map (Sum.inl (β:=J))=some (.inl v)):o=some v:=by
 cases o with
 | none=>cases h
 | some x=>cases h;rfl
theorem map_inr {V J:Type} {o:Option J} {v:J} (h:o.map (Sum.inr (α:=V))=some (.inr v)):o=some v:=by
 cases o with
 | none=>cases h
 | some x=>cases h;rfl
theorem cev_sound (hC:∀o∈C,Ctr P G E o) (hF:Facts P) (hm:P.follows .mixedOrders=true) {T:Tab} {fuel:Nat} (hE:X.E=E) (hG:X.G=G) (hX:XOk nx X) :
  ∀(c:Code) (hb:codeB nt c=true) {J:Type} (Z:Env) (K:Exit->Env->Option J) (r:J) (Q:Exit->Env->Prop),cev C T nx fuel c Z K=some r->(∀e Z',K e Z'=some r->Q e Z')->XW P X nt c Z Q:=by
 intro c
 induction c with
 | skip=>intro _ J Z K r Q h hQ;exact XW.skip (hQ _ _ h)
 | label l=>intro _ J Z K r Q h hQ;exact XW.label (hQ _ _ h)
 | exit id=>intro _ J Z K r Q h hQ;exact XW.exit (hQ _ _ h)
 | ret=>intro _ J Z K r Q h hQ;exact XW.ret (hQ _ _ h)
 | seq x y ihx ihy=>
  intro hb J Z K r Q h hQ
  have hb:(codeB nt x&&codeB nt y)=true:=hb
  rw[Bool.and_eq_true]at hb
  unfold cev at h
  refine XW.seq ?_
  split at h
  ·refine ihx hb.1 Z _ r _ h fun e Z' hk=> ?_
   cases e with
   | normal=>exact ihy hb.2 Z' K r Q hk hQ
   | _=>exact hQ _ _ hk
  ·rename_i sh _
   obtain⟨v,h1,h2⟩:=bd_some h
   refine ihx hb.1 Z _ v _ h1 fun e Z' hk=> ?_
   cases e with
   | normal=>exact XW.gh (Shape.dec_gh hX hk) (ihy hb.2 _ K r Q h2 hQ)
   | _=>cases hk
  ·rename_i sh _
   rcases jn_some h with⟨v,h1,h2⟩ | h1
   ·refine ihx hb.1 Z _ _ _ h1 fun e Z' hk=> ?_
    cases e with
    | normal=>exact XW.gh (Shape.dec_gh hX (map_inl hk)) (ihy hb.2 _ K r Q h2 hQ)
    | _=>simp at hk
   ·refine ihx hb.1 Z _ _ _ h1 fun e Z' hk=> ?_
    cases e with
    | normal=>simp at hk
    | _=>exact hQ _ _ (map_inr hk)
 | cond c x y ihx ihy=>
  intro hb J Z K r Q h hQ
  have hb:(opndB nt c&&(codeB nt x&&codeB nt y))=true:=hb
  rw[Bool.and_eq_true,Bool.and_eq_true]at hb
  unfold cev at h
  split at h
  ·rename_i b hc
   refine XW.cond hc (fun d e=> ?_) (fun hbt=> ?_) (fun hbf=> ?_)
   ·subst e;simpa [opndB]using hb.1
   ·subst hbt
    exact ihx hb.2.1 Z K r Q h hQ
   ·subst hbf
    exact ihy hb.2.2 Z K r Q h hQ
  ·cases h
 | block id c ih=>
  intro hb J Z K r Q h hQ
  unfold cev at h
  refine XW.block (ih hb Z _ r _ h fun e Z' hk=> ?_)
  cases e with
  | exit id'=>
   simp only at hk
   show(if id'=id then Q .normal Z' else Q (.exit id') Z')
   split at hk
   ·rename_i e;rw[if_pos (Nat.eq_of_beq_eq_true e)];exact hQ _ _ hk
   ·rename_i e;rw[if_neg (fun e2=>by rw[e2,Nat.beq_refl]at e;cases e)];exact hQ _ _ hk
  | _=>exact hQ _ _ hk
 | loop c ih=>
  intro hb J Z K r Q h hQ
  unfold cev at h
  split at h
  ·cases h
  ·rename_i si id so _
   split at h
   ·cases h
   ·rename_i v hv
    obtain⟨o,h1,h2⟩:=bd_some h
    refine XW.gq (XW.loop (fun n Z=>∃v,Gh X nt Z (si.enc v)/\loopF _ n v=some o) fuel ⟨v,Shape.dec_gh hX hv,h1⟩ fun n Z ⟨v,hgh,hl⟩=>XW.gh hgh ?_)
    cases n with
    | zero=>cases hl
    | succ n=>
     unfold loopF at hl
     split at hl
     ·cases hl
     ·rename_i v' hb'
      refine ih hb _ _ _ _ hb' fun e Z' hk=> ?_
      cases e with
      | normal=>exact⟨n,Nat.lt_succ_self n,v',Shape.dec_gh hX (map_inl hk),hl⟩
      | exit id'=>
       simp only at hk
       split at hk
       ·simp at hk
       ·cases hk
      | _=>cases hk
     ·rename_i o' hb'
      cases hl
      refine ih hb _ _ _ _ hb' fun e Z' hk=> ?_
      cases e with
      | normal=>simp at hk
      | exit id'=>
       simp only at hk
       split at hk
       ·rename_i e;rw[Nat.eq_of_beq_eq_true e];exact⟨_,Shape.dec_gh hX (map_inr hk),hQ _ _ h2⟩
       ·cases hk
      | _=>cases hk
  ·rename_i si id so _
   split at h
   ·cases h
   ·rename_i v hv
    have key:∃x,loopF (fun v=>cev C T nx fuel c (J:=EL si.es⊕(EL so.es⊕J)) (si.enc v) fun e Z'=>match e with
      | .normal=>(si.dec nx Z').map .inl
      | .exit id'=>(match Nat.beq id' id with
       | true=>(so.dec nx Z').map fun o=> .inr (.inl o)
       | false=>(K (.exit id') Z').map fun r=> .inr (.inr r))
      | e=>(K e Z').map fun r=> .inr (.inr r)) fuel v=some x/\((∃o,x= .inl o/\K (.exit id) (so.enc o)=some r)∨x= .inr r):=by
     rcases jn_some h with⟨o,q1,q2⟩ | q1
     ·exact⟨_,q1,.inl ⟨o,rfl,q2⟩⟩
     ·exact⟨_,q1,.inr rfl⟩
    obtain⟨x,h1,h2⟩:=key
    refine XW.gq (XW.loop (fun n Z=>∃v,Gh X nt Z (si.enc v)/\loopF _ n v=some x) fuel ⟨v,Shape.dec_gh hX hv,h1⟩ fun n Z ⟨v,hgh,hl⟩=>XW.gh hgh ?_)
    cases n with
    | zero=>cases hl
    | succ n=>
     unfold loopF at hl
     split at hl
     ·cases hl
     ·rename_i v' hb'
      refine ih hb _ _ _ _ hb' fun e Z' hk=> ?_
      cases e with
      | normal=>exact⟨n,Nat.lt_succ_self n,v',Shape.dec_gh hX (map_inl hk),hl⟩
      | exit id'=>
       simp only at hk
       split at hk
       ·simp at hk
       ·simp at hk
      | _=>simp at hk
     ·rename_i o' hb'
      cases hl
      refine ih hb _ _ _ _ hb' fun e Z' hk=> ?_
      have out:∀e Z',(K e Z').map (fun r=>(Sum.inr (Sum.inr r):EL si.es⊕(EL so.es⊕J)))=some (.inr x)->K e Z'=some r:=by
       intro e Z' hk
       cases hq:K e Z' with
       | none=>rw[hq]at hk;cases hk
       | some y=>
        rw[hq]at hk
        rcases h2 with⟨o,rfl,_⟩ | rfl
        ·simp at hk
        ·simp at hk;rw[hk]
      cases e with
      | normal=>simp at hk
      | exit id'=>
       simp only at hk
       split at hk
       ·rename_i e
        rw[Nat.eq_of_beq_eq_true e]
        cases hq:so.dec nx Z' with
        | none=>rw[hq]at hk;cases hk
        | some o=>
         rw[hq]at hk
         rcases h2 with⟨o',rfl,h2⟩ | rfl
         ·simp at hk
          subst hk
          exact⟨_,Shape.dec_gh hX hq,hQ _ _ h2⟩
         ·simp at hk
       ·exact⟨_,fun _ _ h=>h,hQ _ _ (out _ _ hk)⟩
      | _=>exact⟨_,fun _ _ h=>h,hQ _ _ (out _ _ hk)⟩
 | region id ops draw=>
  intro hb J Z K r Q h hQ
  have hb:opsB nt ops.toList=true:=hb
  have eo:ops=ops.toList.toArray:=by simp
  unfold cev at h
  split at h
  ·rename_i i x d hn
   obtain⟨rfl,o,t,t',k0,el,ho,hgu,hdst,hk⟩:=nilLast_spec hn
   obtain⟨ft,Z',h1,h2,h3⟩:=rev_sound hC (ops:=ops) i 0 [] Z _ r (fun j o' hj=>by
    have:ops.toList[j]?=some o':=by rw[el,List.getElem?_append_left (qS1.1 hj).1];exact hj
    simpa using this) h
   have eo:ops=(i++ [o]).toArray:=by rw[<-el]
   have hb:opsB nt (i++ [o])=true:=by rw[<-el];exact hb
   have hb2:=opsB_sound hF hE hG hb
   have hx:opndB nt x=true:=by
    have:(operB nt o&&dstB nt o)=true:=List.all_eq_true.1 hb o (by simp)
    rw[Bool.and_eq_true]at this
    have h0:=this.1
    unfold operB at h0
    rw[ho]at h0
    simp[Op.operands]at h0
    exact h0.1
   rw[eo]
   refine XW.regionN hF hb2.1 hb2.2 ho hgu hdst hx hk ⟨ft,Z',by rw[<-eo];exact h1,h2,fun S w' J' σ u hv=> ?_⟩
   split at h3
   ·rename_i own k l he
    rw[he]at hv
    obtain⟨h4,h5⟩:=cmpN_some h3
    obtain⟨a,cap,e1,_,_,h6⟩:=(show Row S w' k u l from hv.2)
    cases a with
    | none=>
     have hl:l=[]:=by
      by_cases hl:l=[]
      ·exact hl
      ·obtain⟨_,_,h7,_⟩:=h6 hl;cases h7
     exact⟨none,_,_,e1,hQ _ _ (h5 hl)⟩
    | some p=>exact⟨some p,_,_,e1,hQ _ _ h4⟩
   ·rename_i he
    rw[he]at hv
    have e1:u= .slice none 0 0:=hv
    exact⟨none,_,_,e1,hQ _ _ h3⟩
   ·cases h3
  ·rename_i hn
   split at h
   ·obtain⟨ft,Z',h1,h2,h3⟩:=rev_sound hC (ops:=ops) ops.toList 0 [] Z _ r (fun j o hj=>by simpa using hj) h
    have h4:K .normal Z'=some r/\(draw=true->orderOk ops ft=true):=by
     split at h3
     ·exact⟨h3,fun h=>nomatch h⟩
     ·split at h3
      ·rename_i ho;exact⟨h3,fun _=>ho⟩
      ·cases h3
    cases draw with
    | false=>rw[eo];exact XW.reg hF hE hG hb ⟨ft,Z',by rw[<-eo];exact h1,h2,hQ _ _ h4.1⟩
    | true=>rw[eo];exact XW.drw hF hE hG hm hb ⟨ft,Z',by rw[<-eo];exact h1,h2,by rw[<-eo];exact h4.2 rfl,hQ _ _ h4.1⟩
   ·rename_i sh _
    obtain⟨v,h1,h2⟩:=bd_some h
    obtain⟨ft,Z',q1,q2,q3⟩:=rev_sound hC (ops:=ops) ops.toList 0 [] Z _ v (fun j o hj=>by simpa using hj) h1
    have h4:sh.dec nx Z'=some v/\(draw=true->orderOk ops ft=true):=by
     split at q3
     ·exact⟨q3,fun h=>nomatch h⟩
     ·split at q3
      ·rename_i ho;exact⟨q3,fun _=>ho⟩
      ·cases q3
    refine XW.gq ?_
    cases draw with
    | false=>rw[eo];exact XW.reg hF hE hG hb ⟨ft,Z',by rw[<-eo];exact q1,q2,_,Shape.dec_gh hX h4.1,hQ _ _ h2⟩
    | true=>rw[eo];exact XW.drw hF hE hG hm hb ⟨ft,Z',by rw[<-eo];exact q1,q2,by rw[<-eo];exact h4.2 rfl,_,Shape.dec_gh hX h4.1,hQ _ _ h2⟩
 | _=>intro _ J Z K r Q h;cases h
theorem csn:∀o∈([]:List Orc),Ctr P G E o:=fun _ h=>by cases h
theorem csc {o:Orc} {l:List Orc} (h:Ctr P G E o) (hs:∀x∈l,Ctr P G E x):∀x∈o::l,Ctr P G E x:=fun x hx=>by
 rcases List.mem_cons.1 hx with rfl|hx
 ·exact h
 ·exact hs x hx
def okB (nt nx:Nat) (avs:List PV) (xs:List (List PV)):Bool:=lentOk (lnQ nx) avs xs.length&&(xs.all (fun cs=>cs.all cellOk)&&(Nat.ble avs.length nt&&(Nat.ble avs.length 1000&&(Nat.beq xs.length (nxB nx)&&(Nat.ble (nxB nx) 49&&(Nat.ble (lentL (lnQ nx) avs).length (nxL nx)&&xs.all fun cs=>Nat.ble cs.length 1000))))))
theorem Ctr.mk (hC:∀o∈C,Ctr P G E o) (hF:Facts P) (hm:P.follows .mixedOrders=true) (hcl:∀w w':World,E w->(∀b,b<G->w'.heap[b]?=w.heap[b]?)->E w') {o:Orc} (T:Tab) (fuel:Nat) {fn:Func} {c:Code} (hf:P.funcs[o.f]?=some fn) (hb:fn.body=some c)
  (hB:((fn.name== "runtime.NumGoroutine")==false&&codeB fn.ntmps c)=true) (hok:∀v,okB fn.ntmps o.nx (o.args v) (o.exts v)=true) (hel:∀v r,(o.back r).map List.length=(o.exts v).map List.length) (h:∀v,fev C T o.nx fuel fn o.pat o.ins o.out v=o.p v):Ctr P G E o:=fun v r hr=>by
 rw[<-h v]at hr
 simp only[Bool.and_eq_true,beq_iff_eq]at hB
 obtain⟨b1,b2⟩:=hB
 have hv:=hok v
 unfold okB at hv
 simp only[Bool.and_eq_true]at hv
 obtain⟨k1,k2,k3,k4,k5,k6,k8,k7⟩:=hv
 have k5:=Nat.eq_of_beq_eq_true k5
 refine PCalls.mk hF hcl hf b1 hb k1 k2 (Nat.le_of_ble_eq_true k3) (by rw[k5];exact Nat.le_of_ble_eq_true k6) (fun cs hcs=>Nat.le_of_ble_eq_true (List.all_eq_true.1 k7 cs hcs)) (Nat.le_of_ble_eq_true k4) (fun X hE hX hG hR=> ?_) (hel v r)
 unfold fev at hr
 rw[hb]at hr
 refine XW.gq (cev_sound hC hF hm hE hG ⟨hX.trans k5,fun q u n hq=>Nat.lt_of_lt_of_le (hR q u n hq) (Nat.le_of_ble_eq_true k8)⟩ c b2 _ _ r _ hr fun e Z' hk=>⟨outE o.nx fn.results.toList Z',unf_gh _ _,?_⟩)
 have fin:∀Z',finE fn.ntmps o.nx fn.results.toList (o.exts v).length (lentL (lnQ o.nx) (o.args v)) o.out Z'=some r->retX fn.ntmps fn.results.toList (o.exts v).length (lentL (lnQ o.nx) (o.args v)) (o.res r) (o.gbs r) (o.back r) .ret Z':=by
  intro Z' hk
  unfold finE at hk
  split at hk
  ·cases hk
  ·rename_i vs hvs
   split at hk
   ·cases hk
   ·rename_i cs hcs
    split at hk
    ·cases hk
    ·rename_i qs A B hcl
     split at hk
     ·rename_i hn
      rw[Bool.and_eq_true]at hn
      split at hk
      ·rename_i rs hrs
       exact⟨vs,cs,qs,A,B,hvs,hcs,hcl,nodN_B hn.1,hn.2,unQ_wk hrs (Ro.decL_wk hk)⟩
      ·cases hk
     ·cases hk
 cases e with
 | normal=>exact fin _ hk
 | ret=>exact fin _ hk
 | _=>cases hk
theorem Ctr.rec {f:FuncId} {pat:List (Option PV)} {ins:List Sh} {nx:Nat} {out:Ro} {B:(PL ins->Option out.V)->PL ins->Option out.V} (h:∀slf,Ctr P G E ⟨f,pat,ins,nx,out,slf⟩->Ctr P G E ⟨f,pat,ins,nx,out,B slf⟩):∀n,Ctr P G E ⟨f,pat,ins,nx,out,recF B n⟩
 | 0=>fun v r hr=>by cases hr
 | n+1=>h _ (Ctr.rec h n)
end
end Go.Px

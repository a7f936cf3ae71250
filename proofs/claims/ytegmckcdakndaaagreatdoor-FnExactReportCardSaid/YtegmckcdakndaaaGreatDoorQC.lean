/- What a call may hold, as plain values and a store: a small machine over them, the functions of this program as its contracts, and the plain laws: texts Px35 to QG. -/
import Derived.Test.YtegmckcdakndaaaGreatDoorQB
import Derived.Lib.ConvBytes
import Derived.Laws.BytesString
import Derived.WideMake
import Derived.Test.YtegmckcdakndaaaGreatDoorQA
set_option linter.unusedSimpArgs false
set_option linter.unusedVariables false
set_option linter.constructorNameAsVariable false
namespace Go.Px
variable {x y:Operand} {d i n nt nx off v ver:Nat} {S:Nat->Prop} {k:K} {J:Nat->Option (Nat×Nat)} {N:Nat->List Nat} {w':World} {p q:PV} {b:oE} {f σ:cU} {α:Type} {u:Value} {X:mM} {Z:gU} {o:Oper} {P:Program} {es qs:List PV}
open Go.RowKit
def HD (o:Oper) (t:TypeId) (l c:PV):eM PV:=match F3 t,l,c with
 | some k,.v (.int _ l),.v (.int _ c)=>NR (0<=l/\l<=c) (NR (cR k c.toNat) (pG (rS o) (.rowb k (List.replicate l.toNat (zK k))) fun ver=> .ret (.ref (rS o) ver 0 l.toNat true)))
 | _,_,_=> .fail
def aEx (k:K):List (ty k)->List (Nat×PV)->eM (List (ty k))
 | l,[]=> .ret l
 | l,(i,v)::rest=>match l[i]? with
  | none=> .fail
  | some x=>(KP (jJ v)).bind fun a=>if a.length=size k then match nJ k a with
   | some y=>aEx k (l.set i y) rest
   | none=> .fail
   else .fail
def aJf {α:Type}:Nat->List α->eM (List α)
 | 0,[]=> .ret []
 | n+1,x::l=>(aJf n l).bind fun ys=> .ret (x::ys)
 | _,_=> .fail
def tL (o:Oper) (t:TypeId) (n:Nat) (parts:List (Nat×PV)):eM PV:=match F3 t with
 | some k=>if n=0 then(match parts with
   | []=>pG (rS o) (.rowb k []) fun ver=> .ret (.ref (rS o) ver 0 0 true)
   | _::_=> .fail)else if n*size k<=16777216 then(aEx k (List.replicate n (zK k)) parts).bind fun l=>(aJf n l).bind fun l=>pG (rS o) (.rowb k l) fun ver=> .ret (.ref (rS o) ver 0 n true)else .fail
 | none=> .fail
section
variable {P:Program} {PC:rU} {X:mM} {nt:Nat} {Q:Exit->Act->World->Prop} {Z:gU} {a:Act} {w:World} {o:Oper} {v:PV} {s':cU} {r wr:List Nat}
theorem aE3 {op:UnOp} {t:TypeId} (R:o.op= .unOp op t x) (W:dI nt x=true) (Y:cE X nt Z a w) (h:(eUn op (opd Z.t x)).Run PC Z.s v s' r wr) :
  o.wp P a w (fun a' w'=>cE X nt ⟨eJ o.dst v Z.t,s'⟩ a' w') Q:=by
 obtain⟨I,M,J,N,e⟩:=id Y
 have D:=e.opd I W
 have ex:∀(u q:Value),a.eval x=u->(Op.unary op u).run P w= .ok q w->(execOp a.eval o).run P w= .ok (.value q) w:=by
  intro u q z H
  unfold execOp
  simp only[R,z,Sem.run_bind,Sem.run_pure,Result.andThen_ok,H]
 unfold eUn at h
 split at h
 case h_4=>exact h.elim
 case h_1=>
  rename_i b z
  rw[z]at D
  obtain⟨rfl,rfl,-,-⟩:v=_/\s'=_/\r=[]/\wr=[]:=h
  exact cK I M e (ex _ (.bool !b) D.1 (by simp[Op.unary])) ⟨rfl,trivial⟩
 case h_2=>
  rename_i k n z
  rw[z]at D
  obtain⟨rfl,rfl,-⟩:=SU h
  exact cK I M e (ex _ (.int k (k.wrap (0-n))) D.1 (by simp[Op.unary,Op.intArith])) ⟨rfl,yD _ _⟩
 case h_3=>
  rename_i k n z
  rw[z]at D
  obtain⟨rfl,rfl,-,-⟩:v=_/\s'=_/\r=[]/\wr=[]:=h
  exact cK I M e (ex _ _ D.1 (by simp[Op.unary,Op.intBits])) ⟨rfl,yD _ _⟩
theorem GO {z:Array Value} {m:Nat} (D:m<n) (H:0<z.size):(madeCells z n)[m]?=z[m % z.size]?:=by
 have e:m % z.size<z.size:=Nat.mod_lt _ H
 unfold madeCells
 simp[D,e]
theorem LP {z:Array Value} {c:Nat} (M:OX (aG (zK k)) z) (hn:n<=c):vR S w (List.replicate n (zK k)) (fun o=>(madeCells z (c*size k))[o]?):=by
 intro i x I j lf e
 obtain⟨H,rfl⟩:i<n/\x=zK k:=by
  have H:=(iR.1 I).1
  simp at H
  refine⟨H,?_⟩
  rw[List.getElem?_replicate,if_pos H]at I
  exact(Option.some.inj I).symm
 have R:j<size k:=by have:=(iR.1 e).1;rwa[cP]at this
 have D:z.size=size k:=by rw[M.1,cP]
 obtain⟨u,Y,W⟩:=M.2 j lf e
 refine⟨u,?_,?_⟩
 ·show(madeCells z (c*size k))[i*size k+j]?=some u
  rw[GO (nI (by omega) R) (by rw[D];exact mH k),D,Nat.mul_comm i,Nat.mul_add_mod,Nat.mod_eq_of_lt R]
  exact Y
 ·cases lf with
  | sc q=>exact W
  | nest k' l'=>obtain⟨rfl,rfl⟩:=W;exact wY.nil
theorem YH {tm:Array Value} (h:St X Z w tm J N) (id:Nat) (hid:99<=id) {l:List (ty k)} {cur:Array Value} {cap:Nat} (Y:l.length<=9223372036854775807) (M:l.length<=cap) (h3:cap<=maxLen) (R:cur.size=cap*size k) (h5:vR (Fz X w N Z.s) w l (fun o=>cur[o]?)) :
  St X ⟨Z.t,eN Z.s id ⟨(Z.s id).ver+1,some (.rowb k l)⟩⟩ (w.alloc (.cells cur (mJ k))) tm (eN J id (some (w.heap.size,0))) (eN N id [w.heap.size])/\
  gM (Fz X (w.alloc (.cells cur (mJ k))) (eN N id [w.heap.size]) (eN Z.s id ⟨(Z.s id).ver+1,some (.rowb k l)⟩)) (w.alloc (.cells cur (mJ k))) (eN J id (some (w.heap.size,0))) (eN Z.s id ⟨(Z.s id).ver+1,some (.rowb k l)⟩) (.ref id ((Z.s id).ver+1) 0 l.length true) (.slice (some ⟨w.heap.size,0,none⟩) l.length cap):=by
 have z:=heap_alloc_new w (.cells cur (mJ k))
 refine⟨(OH (w':=w.alloc (.cells cur (mJ k))) h id hid (.rowb k l) (some (w.heap.size,0)) [w.heap.size] rfl rfl rfl (by simp) (fun b hb=>Below.heap_alloc w _ b hb) (by simp) (by simp) fun T=> ?_).2,?_⟩
 ·refine .inr ⟨w.heap.size,cap,cur,by rw[aD],rfl,Y,gY.of z,M,h3,R,fun i x hx j lf H=> ?_⟩
  obtain⟨u,hu,W⟩:=h5 i x hx j lf H
  refine⟨u,hu,?_⟩
  cases lf with
  | sc q=>exact W
  | nest k' l'=>exact T.row W
 ·refine⟨by show _<=(eN Z.s _ _ _).ver;rw[aD];exact bB _,⟨_,_,_,rfl⟩,fun b2 k2 l2 e I=> ?_⟩
  rw[aD]at e
  cases e
  cases I
  refine⟨by omega,.inr ⟨w.heap.size,cap,0,by rw[aD],M,rfl,fun _=>by rw[iI],fun _=>⟨rfl,rfl,fun c2 E2 fz2 D=> ?_⟩⟩⟩
  rw[z]at D
  cases D
  exact R
theorem aHD {tm:Array Value} (h:St X Z w tm J N) (id:Nat) (hid:99<=id) {l:List (ty k)} {cur:Array Value} {cap:Nat} {fz:Nat×Nat} (ho:w'.os=w.os) (ht:w'.tape=w.tape) (M:w'.output=w.output) (Y:w.heap.size<w'.heap.size)
  (D:∀b,b<w.heap.size->w'.heap[b]?=w.heap[b]?) (z:w'.heap[w.heap.size]?=some (.cells cur (mJ k) fz)) (H:VB (mJ k) cur.size fz) (h1:l.length<=9223372036854775807) (h2:l.length<=cap) (h3:cap<=maxLen) (h4:cur.size=cap*size k) (h5:vR (Fz X w N Z.s) w l (fun o=>cur[o]?)) :
  St X ⟨Z.t,eN Z.s id ⟨(Z.s id).ver+1,some (.rowb k l)⟩⟩ w' tm (eN J id (some (w.heap.size,0))) (eN N id [w.heap.size])/\
  gM (Fz X w' (eN N id [w.heap.size]) (eN Z.s id ⟨(Z.s id).ver+1,some (.rowb k l)⟩)) w' (eN J id (some (w.heap.size,0))) (eN Z.s id ⟨(Z.s id).ver+1,some (.rowb k l)⟩) (.ref id ((Z.s id).ver+1) 0 l.length true) (.slice (some ⟨w.heap.size,0,none⟩) l.length cap):=by
 refine⟨(OH (w':=w') h id hid (.rowb k l) (some (w.heap.size,0)) [w.heap.size] ho ht M (oC Y) D (by simpa using Y) (by simp) fun T=> ?_).2,?_⟩
 ·refine .inr ⟨w.heap.size,cap,cur,by rw[aD],rfl,h1,⟨fz,z,H⟩,h2,h3,h4,fun i x hx j lf R=> ?_⟩
  obtain⟨u,M,hv⟩:=h5 i x hx j lf R
  refine⟨u,M,?_⟩
  cases lf with
  | sc q=>exact hv
  | nest k' l'=>exact T.row hv
 ·refine⟨by show _<=(eN Z.s _ _ _).ver;rw[aD];exact bB _,⟨_,_,_,rfl⟩,fun b2 k2 l2 e W=> ?_⟩
  rw[aD]at e
  cases e
  cases W
  refine⟨by omega,.inr ⟨w.heap.size,cap,0,by rw[aD],h2,rfl,fun _=>by rw[iI],fun _=>⟨rfl,rfl,fun c2 E2 fz2 I=> ?_⟩⟩⟩
  rw[z]at I
  cases I
  exact h4
theorem LC (Y:fT P) {t:TypeId} (ho:o.op= .makeSlice t x y) (hx:dI nt x=true) (hy:dI nt y=true) (hg:cE X nt Z a w) (h:(HD o t (opd Z.t x) (opd Z.t y)).Run PC Z.s v s' r wr) :
  o.wp P a w (fun a' w'=>cE X nt ⟨eJ o.dst v Z.t,s'⟩ a' w') Q:=by
 obtain⟨R,hd,J,N,D⟩:=id hg
 have hv:=D.opd R hx
 have I:=D.opd R hy
 unfold HD at h
 split at h
 case h_2=>exact h.elim
 rename_i k kl l kc c ht he W
 rw[he]at hv
 rw[W]at I
 obtain⟨M,h⟩:(0<=l/\l<=c)/\_:=h
 obtain⟨⟨g1,g2⟩,h⟩:=h
 obtain⟨r',wr',h⟩:=fA h
 obtain⟨rfl,rfl,-,-⟩:v=_/\s'=_/\r'=[]/\wr'=[]:=h
 obtain⟨i,z,q1,q2,q3,q4,q5,q6⟩:=Y.el k
 have e:=run_make (P:=P) w t (mJ k) i z (Y.sl t k ht) q1 q2 kl kc l c M.1 M.2 (by
  rw[q4]
  have:((c.toNat*byt k:Nat):Int)<=140737488355328:=by omega
  rw[Int.natCast_mul]at this
  have h2:((c.toNat:Nat):Int)=c:=by omega
  rw[h2,Int.mul_comm]at this
  omega) (by omega)
 have H:=YH (l:=List.replicate l.toNat (zK k)) (cur:=madeCells z.cells (c.toNat*size k)) (cap:=c.toNat) D (rS o) (xX o) (by simp;omega) (by simp;omega) (by unfold maxLen;omega) (by rw[size_madeCells]) (LP q6 (by omega))
 simp only[List.length_replicate]at H
 rw[q3]at e
 refine jM R hd ?_ H.1 H.2
 unfold execOp
 simp only[ho,hv.1,I.1,Sem.run_bind,Sem.run_pure,Result.andThen_ok,e]
theorem aBL {q:aA} {s s':cU} {r wr:List Nat} (e:(S5 p).Run PC s q s' r wr):mI p=true:=by
 unfold S5 at e
 split at e<;>first|rfl|exact e.elim
theorem KQ:∀{ps:List PV} {qs:List aA} {s s':cU} {r wr:List Nat},(KP ps).Run PC s qs s' r wr->ps.all mI=true/\qs.length=ps.length
 | [],qs,s,s',r,wr,z=>by obtain⟨rfl,-,-,-⟩:=z;exact⟨rfl,rfl⟩
 | p::ps,qs,s,s',r,wr,z=>by
  obtain⟨Y,s1,r1,w1,r2,w2,D,H⟩:=cB z
  obtain⟨a2,s2,r3,w3,r4,w4,I,M⟩:=cB H
  obtain⟨e,e2,-,-⟩:=M
  subst e
  obtain⟨R,W⟩:=KQ I
  exact⟨by simp[aBL D];simpa using R,by simp[W]⟩
theorem aGU {l:List (ty k)} {us xs:List Value} {x y:ty k} {ls:List aA} (h:vR S w l (fun o=>us[o]?)) (hl:us.length=l.length*size k) (hx:l[i]?=some x) (hv:bC (LI S w) ls xs) (hls:ls.length=size k) (hy:nJ k ls=some y) :
  vR S w (l.set i y) (fun o=>(splice us (i*size k) xs)[o]?):=by
 have hxl:=hv.len
 have hi:i<l.length:=(iR.1 hx).1
 have D:i*size k+xs.length<=us.length:=by
  have:(i+1)*size k<=l.length*size k:=bF _ (by omega)
  rw[cF]at this;omega
 intro M x' e z lf I
 have hj':z<size k:=by have:=(iR.1 I).1;rwa[cP]at this
 show∃u,(splice us (i*size k) xs)[M*size k+z]?=some u/\_
 by_cases R:M=i
 ·subst R
  rw[jX (by omega)]at e
  cases e
  obtain⟨lf',H,hI⟩:=(iX hy).get z ls[z] (by simp[show z<ls.length by omega])
  rw[I]at H;cases H
  obtain⟨u,hu,W⟩:=hv.get z ls[z] (by simp[show z<ls.length by omega])
  exact⟨u,by rw[sV D (by omega)];exact hu,W.leaf hI⟩
 ·rw[List.getElem?_set_ne (Ne.symm R)]at e
  obtain⟨u,h9,Y⟩:=h M x' e z lf I
  refine⟨u,?_,Y⟩
  rw[pK D ?_]
  ·exact h9
  ·rcases rP M i with h11|h11
   ·left
    have:(M+1)*size k<=i*size k:=bF _ h11
    rw[cF]at this;omega
   ·right
    have:(i+1)*size k<=M*size k:=bF _ (by omega)
    rw[cF]at this;omega
theorem WQ {t:Nat->PV} {tm:Array Value} {J:Nat->Option (Nat×Nat)} {N:Nat->List Nat} {k:K}:∀(parts:List (Nat×PV)) (vals:List (Nat×Value)) (l H:List (ty k)) (us:List Value) (s s':cU) (r wr:List Nat),St X ⟨t,s⟩ w tm J N->
  bC (fun p q=>p.1=q.1/\gM (Fz X w N s) w J s p.2 q.2) parts vals->vR (Fz X w N s) w l (fun o=>us[o]?)->us.length=l.length*size k->(aEx k l parts).Run PC s H s' r wr->
  ∃us':List Value,Instr.fill (fun i=>some (i*size k,size k)) us.toArray vals=some us'.toArray/\St X ⟨t,s'⟩ w tm J N/\vR (Fz X w N s') w H (fun o=>us'[o]?)/\us'.length=H.length*size k/\H.length=l.length
 | [],[],l,H,us,s,s',r,wr,h,_,hc,hl,z=>by
  obtain⟨rfl,rfl,-,-⟩:=z
  exact⟨us,rfl,h,hc,hl,rfl⟩
 | (i,v)::parts,(i',u)::vals,l,H,us,s,s',r,wr,h,⟨⟨e,hv⟩,ht⟩,hc,hl,z=>by
  simp only at e hv
  subst e
  unfold aEx at z
  split at z
  case h_1=>exact z.elim
  rename_i x hx
  obtain⟨ls,s1,r1,w1,r2,w2,k1,z⟩:=cB z
  split at z
  case isFalse=>exact z.elim
  rename_i hls
  split at z
  case h_2=>exact z.elim
  rename_i y hy
  obtain⟨p1,p2⟩:=KQ k1
  obtain⟨xs,hxs,I,_⟩:=pF hv p1
  obtain⟨m1,m2,m3,_⟩:=CS h I k1
  have hxl:=m3.len
  have hi:i<l.length:=(iR.1 hx).1
  have D:i*size k+xs.length<=us.length:=by
   have:(i+1)*size k<=l.length*size k:=bF _ (by omega)
   rw[cF]at this;omega
  have hc1:vR (Fz X w N s1) w l (fun o=>us[o]?):=fun i2 x2 hx2 j2 M R=>by
   obtain⟨u2,hu2,W⟩:=hc i2 x2 hx2 j2 M R
   refine⟨u2,hu2,?_⟩
   cases M with
   | sc q=>exact W
   | nest k2 l2=>exact m2.row W
  obtain⟨us',q1,q2,q3,q4,q5⟩:=WQ parts vals (l.set i y) H (splice us (i*size k) xs) s1 s' r2 w2 m1 (ht.mono fun a b Y=>⟨Y.1,m2.vc Y.2⟩) (aGU hc1 hl hx m3 hls hy) (by rw[mS D];simpa using hl) z
  refine⟨us',?_,q2,q3,q4,by simpa using q5⟩
  rw[Instr.fill]
  simp only[hxs,kY]
  rw[if_neg (by simp;omega)]
  rw[D0 (i*size k) xs us.toArray (by simpa using D)]
  exact q1
 | [],_::_,_,_,_,_,_,_,_,_,h,_,_,_=>h.elim
 | _::_,[],_,_,_,_,_,_,_,_,h,_,_,_=>h.elim
theorem aA5 {α:Type} {PC:rU}:∀{n:Nat} {l e:List α} {s s':cU} {r wr:List Nat},(aJf n l).Run PC s e s' r wr->e=l/\s'=s/\l.length=n
 | 0,[],e,s,s',r,wr,h=>⟨h.1,h.2.1,rfl⟩
 | n+1,x::l,e,s,s',r,wr,h=>by
  unfold aJf at h
  obtain⟨ys,s1,I,M,R,W,D,z⟩:=cB h
  obtain⟨rfl,rfl,H⟩:=aA5 D
  exact⟨z.1,z.2.1,congrArg (· + 1) H⟩
 | 0,_::_,_,_,_,_,_,h=>h.elim
 | _+1,[],_,_,_,_,_,h=>h.elim
theorem qG (W:fT P) {t:TypeId} {parts:Array (Nat×Operand)} (ho:o.op= .buildSlice t n parts) (Y:(parts.toList.map (·.2)).all (dI nt)=true) (hg:cE X nt Z a w) (h:(tL o t n (parts.toList.map fun x=>(x.1,opd Z.t x.2))).Run PC Z.s v s' r wr) :
  o.wp P a w (fun a' w'=>cE X nt ⟨eJ o.dst v Z.t,s'⟩ a' w') Q:=by
 obtain⟨hs,hd,J,N,H⟩:=id hg
 unfold tL at h
 split at h
 case h_2=>exact h.elim
 rename_i k hk
 obtain⟨i,z,q1,q2,q3,q4,q5,q6⟩:=W.el k
 split at h
 case isTrue hn0=>
  subst hn0
  split at h
  case h_2=>exact h.elim
  rename_i hp
  obtain rfl:parts= #[]:=by
   apply Array.ext'
   simpa using hp
  obtain⟨r',wr',h⟩:=fA h
  obtain⟨rfl,rfl,-,-⟩:v=_/\s'=_/\r'=[]/\wr'=[]:=h
  obtain⟨I,M⟩:=YH (Z:=⟨Z.t,Z.s⟩) (k:=k) (l:=[]) (cur:= #[]) (cap:=0) H (rS o) (xX o) (by simp) (by simp) (by unfold maxLen;omega) (by simp) (fun i x Y=>by simp at Y)
  refine jM hs hd (u:= .slice (some ⟨w.heap.size,0,none⟩) 0 0) ?_ I M
  have e:(Instr.buildSlice t 0 #[]).run P w= .ok (.slice (some ⟨w.heap.size,0,none⟩) 0 0) (w.alloc (.cells #[] (mJ k))):=by
   have e0:Array.range 0= #[]:=rfl
   simp[Instr.buildSlice,run_underlying (W.sl t k hk),sizeOf,typeInfo,q1,Instr.fill,newRow,e0]
  unfold execOp
  simp only[ho,Sem.run_bind,Array.map_empty,e,Result.andThen_ok,Sem.run_pure]
 rename_i hn0
 split at h
 case isFalse=>exact h.elim
 rename_i hn
 obtain⟨l,s1,r1,w1,r2,w2,k1,h⟩:=cB h
 obtain⟨l',s2,r3,w3,r4,w4,k2,h'⟩:=cB h
 obtain⟨e1,e2,hln⟩:=aA5 k2
 rw[e1,e2]at h'
 clear h k2 e1 e2
 have h:=h'
 obtain⟨r',wr',h⟩:=fA h
 rw[<-hln]at h
 obtain⟨rfl,rfl,-,-⟩:v=_/\s'=_/\r'=[]/\wr'=[]:=h
 have D:∀(l:List (Nat×Operand)),(∀x∈l,dI nt x.2=true)->bC (fun(p:Nat×PV) (q:Nat×Value)=>p.1=q.1/\gM (Fz X w N Z.s) w J Z.s p.2 q.2) (l.map fun x=>(x.1,opd Z.t x.2)) (l.map fun x=>(x.1,a.eval x.2)):=by
  intro l
  induction l with
  | nil=>intro _;trivial
  | cons x l ih=>intro hl;exact⟨⟨rfl,H.opd hs (hl x (by simp))⟩,ih fun y hy=>hl y (by simp[hy])⟩
 obtain⟨us',p1,p2,p3,p4,p5⟩:=WQ (t:=Z.t) _ _ _ _ (madeCells z.cells (n*size k)).toList _ _ _ _ H (D parts.toList fun x hxm=>List.all_eq_true.1 Y x.2 (List.mem_map.2 ⟨x,hxm,rfl⟩)) (by have:=LP (w:=w) (S:=Fz X w N Z.s) (n:=n) (c:=n) q6 (bB _);simpa using this) (by simp[size_madeCells]) k1
 simp only[List.length_replicate]at p5
 have R:=mH k
 have hnle:n<=n*size k:=Nat.le_mul_of_pos_right _ R
 obtain⟨I,M⟩:=YH (Z:=⟨Z.t,s1⟩) (l:=l) (cur:=us'.toArray) (cap:=n) p2 (rS o) (xX o) (by omega) (by omega) (by unfold maxLen;omega) (by simp[p4,p5]) (by simpa using p3)
 refine jM hs hd (u:= .slice (some ⟨w.heap.size,0,none⟩) l.length n) ?_ I M
 have e:=run_buildSlice (P:=P) w t (mJ k) n (parts.map fun x=>(x.1,a.eval x.2)) us'.toArray i z (W.sl t k hk) q1 q2 (by rw[q3];omega) (by rw[q3];have:=Nat.mul_pos (by omega:0<n) R;omega) (by rw[q3,Array.toList_map];rw[Array.toArray_toList]at p1;exact p1)
 unfold execOp
 simp only[ho,Sem.run_bind,e,Result.andThen_ok,Sem.run_pure,p5]
end
open Go.RowKit
def PU (o:Oper) (src dst:TypeId) (x:PV):eM PV:=match cvT src dst,x with
 | some .toBytes,.v (.string s)=>pG (rS o) (.rowb .u8 s.data.toList) fun ver=> .ret (.ref (rS o) ver 0 s.data.toList.length true)
 | _,_=> .fail
def aCL (src dst:TypeId) (x:PV):eM PV:=match cvT src dst with
 | some .toStr=>(HG .u8 x).bind fun l=> .ret (.v (.string ⟨l.toArray⟩))
 | _=> .fail
section
variable {P:Program} {PC:rU} {X:mM} {nt:Nat} {Q:Exit->Act->World->Prop} {Z:gU} {a:Act} {w:World} {o:Oper} {v:PV} {s':cU} {r wr:List Nat}
theorem XQ (hF:fT P) {t:TypeId} (ho:o.op= .field t x i) (hx:dI nt x=true) (hg:cE X nt Z a w) (h:(aCF t i (opd Z.t x)).Run PC Z.s v s' r wr) :
  o.wp P a w (fun a' w'=>cE X nt ⟨eJ o.dst v Z.t,s'⟩ a' w') Q:=by
 obtain⟨hs,hd,J,N,D⟩:=id hg
 have hv:=D.opd hs hx
 unfold aCF at h
 split at h
 case h_2=>exact h.elim
 rename_i off ag n hf
 split at h
 case h_2=>exact h.elim
 rename_i cs he
 rw[he]at hv
 obtain⟨us,hu,e⟩:=hv
 obtain⟨hn,fs,f,q1,q2,q3,q4,q5,q6⟩:=hF.fld t i off ag n hf
 unfold uG at h
 split at h
 case isFalse=>exact h.elim
 rename_i hlen
 have hul:cs.length=us.size:=by simpa using e.len
 have hex:∀q,(part f.type us off).run P w= .ok q w->(execOp a.eval o).run P w= .ok (.value q) w:=by
  intro q M
  unfold execOp
  simp only[ho,hu,Instr.field,run_underlying q1,q2,q3,asAgg,Sem.run_bind,Sem.run_pure,Result.andThen_ok,M]
 cases M:P.info? f.type with
 | none=>simp[M]at q5
 | some inf=>
 have hsz:inf.size=n:=by simpa [M]using q5
 unfold aEo at h
 cases ag with
 | true=>
  obtain⟨rfl,rfl,-,-⟩:v=_/\s'=_/\r=[]/\wr=[]:=h
  refine cK hs hd D (hex (.agg (us.extract off (off+n))) ?_) ⟨_,rfl,?_⟩
  ·simp[part,q4 w,sizeOf,typeInfo,M,hsz]
  ·refine bC.of (by simp only[aF,cA,Array.toList_extract,List.extract_eq_take_drop,d5];omega) fun j p u R H=> ?_
   rw[aU]at R
   split at R
   ·rename_i hj
    rw[bK]at R
    obtain⟨W,I,z⟩:=e.get _ p R
    have h2:us[off+j]?=some u:=by
     simp only[Array.toList_extract,List.extract_eq_take_drop,jG]at H
     rw[aU,if_pos hj,bK]at H
     simpa using H
    have Y:us[off+j]?=some W:=by simpa using I
    rw[h2]at Y;cases Y
    exact z
   ·cases R
 | false=>
  obtain rfl:=q6 rfl
  simp only[aJ,if_false]at h
  split at h
  ·rename_i c hcs
   obtain⟨rfl,rfl,-,-⟩:v=_/\s'=_/\r=[]/\wr=[]:=h
   have hc:cs[off]?=some v:=by
    have:((cs.drop off).take 1)[0]?=some v:=by rw[hcs];rfl
    rw[aU,if_pos (by omega),bK]at this
    exact this
   obtain⟨W,I,z⟩:=e.get _ _ hc
   have Y:us[off]?=some W:=by simpa using I
   refine cK hs hd D (hex W ?_) ?_
   ·simp[part,q4 w,Y]
   ·cases v<;>first|exact z|exact z.elim
  ·exact h.elim
theorem PR {b:Bool} {xs:Array Operand} {ats:Array TypeId} (M:o.op= .call {callee:= .builtin (if b then .max else .min),args:=xs,argTypes:=ats}) (W:xs.toList.all (dI nt)=true) (Y:cE X nt Z a w) (h:(aIS b (xs.toList.map (opd Z.t))).Run PC Z.s v s' r wr) :
  o.wp P a w (fun a' w'=>cE X nt ⟨eJ o.dst v Z.t,s'⟩ a' w') Q:=by
 obtain⟨R,hd,J,N,H⟩:=id Y
 unfold aIS at h
 split at h
 case h_2=>exact h.elim
 rename_i k p k' q he
 split at h
 case isFalse=>exact h.elim
 rename_i hk
 subst hk
 have e:bC (gM (Fz X w N Z.s) w J Z.s) (xs.toList.map (opd Z.t)) (xs.toList.map a.eval):=bC.map_args fun x I=>H.opd R (List.all_eq_true.1 W x I)
 rw[he]at e
 obtain⟨rfl,rfl,-,-⟩:v=_/\s'=_/\r=[]/\wr=[]:=h
 match hm:xs.toList.map a.eval,e with
 | [u1,u2],⟨h1,h2,_⟩=>
  obtain⟨rfl,hw1⟩:=h1
  obtain⟨rfl,hw2⟩:=h2
  have D:xs.map a.eval= #[.int k p,.int k q]:=by
   apply Array.ext'
   simpa using hm
  refine cK R hd H (u:= .int k (if b then(if p<q then q else p)else(if q<p then q else p))) ?_ ⟨rfl,?_⟩
  ·unfold execOp
   cases b with
   | true=>
    have z:(Builtin.max_ ats o.type #[.int k p,.int k q]).run P w= .ok (.int k (if p<q then q else p)) w:=by simp[Builtin.max_,Builtin.max2,List.foldlM]
    simp only[M,if_true,resolve,invoke,builtin,D,Sem.run_bind,Sem.run_pure,Result.andThen_ok,z]
   | false=>
    have z:(Builtin.min_ ats o.type #[.int k p,.int k q]).run P w= .ok (.int k (if q<p then q else p)) w:=by simp[Builtin.min_,Builtin.min2,List.foldlM]
    simp only[M,if_false,aJ,resolve,invoke,builtin,D,Sem.run_bind,Sem.run_pure,Result.andThen_ok,z]
  ·cases b<;>simp only[aJ,if_false,if_true]<;>split<;>assumption
theorem PW (hF:fT P) {src dst:TypeId} (ho:o.op= .convert src dst x) (hx:dI nt x=true) (hg:cE X nt Z a w) (h:(PU o src dst (opd Z.t x)).Run PC Z.s v s' r wr) :
  o.wp P a w (fun a' w'=>cE X nt ⟨eJ o.dst v Z.t,s'⟩ a' w') Q:=by
 obtain⟨hs,hd,J,N,H⟩:=id hg
 have hv:=H.opd hs hx
 unfold PU at h
 split at h
 case h_2=>exact h.elim
 rename_i s hcv he
 rw[he]at hv
 obtain⟨r',wr',h⟩:=fA h
 obtain⟨rfl,rfl,-,-⟩:v=_/\s'=_/\r'=[]/\wr'=[]:=h
 obtain⟨⟨d,I⟩,M,hel⟩:=hF.cvB _ _ hcv
 have R:=Go.Lib.run_convert_string_bytes (P:=P) w src dst (mJ .u8) s I M hel
 have hsz:s.data.toList.length=s.size:=d5
 have hwf:s.size<=9223372036854775807:=hv.2
 have hge:=grownCap_ge w s.size 0 (mJ .u8)
 have W:=Go.Lib.bytesWorld_at_new w (mJ .u8) s
 have hcs:(Go.Lib.bytesCells w (mJ .u8) s).size=grownCap w s.size 0 (mJ .u8)*size .u8:=by
  show _=grownCap w s.size 0 (mJ .u8)*1
  have:s.data.size=s.size:=rfl
  simp[Go.Lib.bytesCells,this];omega
 have Y:=aHD (l:=s.data.toList) (k:= .u8) (cur:=Go.Lib.bytesCells w (mJ .u8) s) (cap:=grownCap w s.size 0 (mJ .u8)) H (rS o) (xX o) (w':=Go.Lib.bytesWorld w (mJ .u8) s) rfl rfl rfl
  (by rw[Go.Lib.bytesWorld_size];omega) (fun b hb=>Go.Lib.bytesWorld_at_old w (mJ .u8) s b hb) W (.inr ⟨bB _,rfl⟩) (by omega) (by omega) (grownCap_le_maxLen _ _ _ _ (by unfold maxLen;exact hwf)) hcs
  (fun i x hx j lf z=>by
   have hj:j<size .u8:=by have:=(iR.1 z).1;rwa[cP]at this
   have hj0:j=0:=by have h1:size .u8=1:=rfl;omega
   subst hj0
   have e:lf= .sc (.int .u8 x.toNat):=by
    have:(aG (k:= .u8) x)[0]?=some (.sc (.int .u8 x.toNat)):=rfl
    rw[this]at z;exact(Option.some.inj z).symm
   subst e
   refine⟨.int .u8 x.toNat,?_,rfl,?_⟩
   ·show(Go.Lib.bytesCells w (mJ .u8) s)[i*1+0]?=_
    have hx2:s.data[i]?=some x:=by simpa using hx
    have hlt:i<s.data.size:=(Array.getElem?_eq_some_iff.1 hx2).1
    unfold Go.Lib.bytesCells
    rw[gG (by simpa using hlt),Nat.mul_one,eY,Array.getElem?_map,hx2]
    rfl
   ·refine(iS .u8 _).2 ?_
    have:=x.toNat_lt
    simp[loK,hiK];omega)
 refine jM hs hd ?_ Y.1 Y.2
 have D:(convert src dst (.string s)).run P w= .ok (.slice (some ⟨w.heap.size,0,none⟩) s.data.toList.length (grownCap w s.size 0 (mJ .u8))) (Go.Lib.bytesWorld w (mJ .u8) s):=by rw[hsz];exact R
 unfold execOp
 simp only[ho,hv.1,Sem.run_bind,Sem.run_pure,Result.andThen_ok,D]
theorem XX (hF:fT P) {src dst:TypeId} (ho:o.op= .convert src dst x) (hx:dI nt x=true) (hg:cE X nt Z a w) (h:(aCL src dst (opd Z.t x)).Run PC Z.s v s' r wr) :
  o.wp P a w (fun a' w'=>cE X nt ⟨eJ o.dst v Z.t,s'⟩ a' w') Q:=by
 obtain⟨hs,hd,J,N,H⟩:=id hg
 have hv:=H.opd hs hx
 unfold aCL at h
 split at h
 case h_2=>exact h.elim
 rename_i hcv
 obtain⟨Y,hdst,hel⟩:=hF.cvS _ _ hcv
 obtain⟨l,s1,r1,w1,r2,w2,h1,h⟩:=cB h
 obtain⟨rfl,rfl,-,-⟩:v=_/\s'=_/\r2=[]/\w2=[]:=h
 obtain⟨rfl,pa,c,xs,he,hfc,D⟩:=HH H hv h1
 have hxs:xs=(l.map fun b=>(b.toNat:Int)).map (Value.int .u8):=by
  apply kX
  intro i
  rw[bX,bX]
  have I:xs.length=l.length:=by have:=hfc.1;rw[show size .u8=1 from rfl,Nat.mul_one]at this;exact this
  by_cases hi:i<l.length
  ·obtain⟨u,W,hq⟩:=hfc.2 i l[i] (by simp[hi]) 0 (.sc (.int .u8 l[i].toNat)) rfl
   obtain⟨rfl,_⟩:=hq
   have hu2:xs[i]?=some (.int .u8 l[i].toNat):=by
    have h3:i*size .u8+0=i:=by rw[show size .u8=1 from rfl];omega
    simp only[h3]at W;exact W
   rw[hu2]
   simp[hi]
  ·rw[dF (by omega),dF (by omega)];rfl
 have M:∀(l:List UInt8) (s:ByteArray),(l.map fun b=>(b.toNat:Int)).foldl (fun r n=>r.push (UInt8.ofNat n.toNat)) s=⟨s.data++l.toArray⟩:=by
  intro l
  induction l with
  | nil=>intro s;simp
  | cons b l ih=>
   intro s
   simp only[bR,List.foldl_cons,ih]
   congr 1
   simp[ByteArray.push]
 have hlen:l.length<=9223372036854775807:=by
  rcases pa with _|_
  ·by_cases z:l=[]
   ·rw[z];simp
   ·obtain⟨b,off,e,_⟩:=D z;cases e
  ·exact PX H hv h1
 refine cK hs hd H (u:= .string ⟨l.toArray⟩) ?_ ⟨rfl,by show(ByteArray.mk l.toArray).size<=_;simpa [ByteArray.size]using hlen⟩
 have hrun:(convert src dst (.slice pa l.length c)).run P w= .ok (.string ⟨l.toArray⟩) w:=by
  rw[run_convert_bytes_string w src dst (mJ .u8) pa l.length c Y hel hdst]
  cases pa with
  | none=>
   have z:l=[]:=by
    by_cases z:l=[]
    ·exact z
    ·obtain⟨b,off,e,_⟩:=D z;cases e
   subst z
   simp[Conv.bytesToString]
   rfl
  | some ad=>
   have R:(loadCells ad l.length).run P w= .ok ((l.map fun b=>(b.toNat:Int)).map (Value.int .u8)).toArray w:=by
    have I:xs.length=l.length:=by rw[hxs];simp
    rw[<-hxs,<-I]
    refine run_loadCells_list (P:=P) w ad xs fun j u W=> ?_
    have z:l≠[]:=by
     intro e
     rw[e]at I
     have:xs=[]:=aR I
     rw[this]at W;simp at W
    obtain⟨b,off,e,h2⟩:=D z
    cases e
    rw[nH]
    exact h2 j u W
   rw[run_bytesToString w ad l.length c _ R,M]
   simp
 unfold execOp
 simp only[ho,he,Sem.run_bind,Sem.run_pure,Result.andThen_ok,hrun]
end
open Go.RowKit
section
variable {P:Program} {PC:rU} {X:mM} {nt:Nat} {Q:Exit->Act->World->Prop} {Z:gU} {a:Act} {w:World} {o:Oper} {v:PV} {t:Nat->PV} {s s':cU} {r wr:List Nat}
variable {J:Nat->Option (Nat×Nat)} {N:Nat->List Nat} {tm:Array Value} {S:Nat->Prop} {σ:cU}
theorem F4 (h:St X Z w tm J N) (id ver:Nat) (h99:99<=id) (hver:(Z.s id).ver<ver) {A:List Nat} (hidA:id∉A) (hAr:∀a∈A,∃blk,(Z.s a).blk=some blk/\∀cs,blk≠ .box cs) (h99A:∀a∈A,99<=a)
  {k:K} {l:List (ty k)} {v':Value} {xs:List Value} (hl:l.length<=9223372036854775807) (hown:jR w' (mJ k) (size k) v' l.length xs) {L:List Nat} (hd:bZ (iE w') (l.flatMap aG) xs L) (hLn:L.Nodup)
  {vo:Option Nat} (I:w.grownBy w' vo) (hvo:∀g,vo=some g->∃j blk,(j=id∨j∈A)/\(Z.s j).blk=some blk/\g∈N j) (hvb:v'.ownBlock=vo∨v'.ownBlock=some w.heap.size)
  (hL:∀x∈L,∃j blk,(j=id∨j∈A)/\(Z.s j).blk=some blk/\x∈N j) (hgL:∀g,v'.ownBlock=some g->g∉L) :
  ∃J' N',St X ⟨Z.t,eN (iP A Z.s) id ⟨ver,some (.rowd k l)⟩⟩ w' tm J' N'/\gM (Fz X w' N' (eN (iP A Z.s) id ⟨ver,some (.rowd k l)⟩)) w' J' (eN (iP A Z.s) id ⟨ver,some (.rowd k l)⟩) (.ref id ver 0 l.length true) v':=by
 have hid:∀p,X.ext[id]?≠some p:=fun p hp=>by
  have:=(iR.1 hp).1
  have:=X.few
  omega
 obtain⟨p,M,hpM⟩:∃(p:Option (Nat×Nat)) (M:List Nat),(p=none/\l=[]/\M=[]/\v'= .slice none 0 0)∨∃b cap cur,p=some (b,0)/\M=b::L/\v'= .slice (some ⟨b,0,none⟩) l.length cap/\(vo=some b∨(b=w.heap.size/\b<w'.heap.size))/\DAt w' b l cap cur L:=by
  rcases hown.2 with⟨z,h2⟩ |⟨g,cap,cur,z,_,H,R,h5,h6,h7⟩
  ·exact⟨none,[],.inl ⟨rfl,aR h2,rfl,z⟩⟩
  ·refine⟨some (g,0),g::L,.inr ⟨g,cap,cur,rfl,rfl,z,?_,hl,H,R,h5,h6,by rw[h7];exact hd⟩⟩
   rw[show v'.ownBlock=some g by rw[z];simp[Value.ownBlock]]at hvb
   rcases hvb with e|e
   ·exact .inl e.symm
   ·injection e with e;subst e;exact .inr ⟨rfl,H.lt⟩
 have W:∀x,x<w.heap.size->(∀i blk,(i=id∨i∈A)->(Z.s i).blk=some blk->x∉N i)->w'.heap[x]?=w.heap[x]?:=by
  intro x hxz hc
  refine I.block x hxz fun e=> ?_
  obtain⟨j,blk,hj,z,h2⟩:=hvo x e.symm
  exact hc j blk hj z h2
 let σ':cU:=eN (iP A Z.s) id ⟨ver,some (.rowd k l)⟩
 have hσid:σ' id=⟨ver,some (.rowd k l)⟩:=aD _ _ _
 have hσA:∀a∈A,σ' a=⟨(Z.s a).ver,none⟩:=fun a ha=>by
  show eN _ _ _ a=_
  rw[bU _ _ (fun e=>by subst e;exact hidA ha),vZ,if_pos ha]
 have hσo:∀j,j≠id->j∉A->σ' j=Z.s j:=fun j z h2=>by
  show eN _ _ _ j=_
  rw[bU _ _ z,vZ,if_neg h2]
 obtain⟨T,hst'⟩:=St.step (Z:=Z) h σ' (fun j=>j=id∨j∈A) (w':=w') (J':=eN J id p) (N':=eN N id M) I.size W (fun i hi=>⟨hσo i (fun e=>hi (.inl e)) (fun e=>hi (.inr e)),bU _ _ (fun e=>hi (.inl e)),bU _ _ (fun e=>hi (.inl e))⟩)
  (by
   rintro i (rfl|hi) v o n f u ⟨k1,k2,k3⟩
   ·refine⟨by rw[hσid];exact oC (iW k1 hver),k2,fun blk k l e hr=> ?_⟩
    rw[hσid]at e
    cases e
    omega
   ·refine⟨by rw[hσA i hi];exact k1,k2,fun blk k l e hr=> ?_⟩
    rw[hσA i hi]at e
    cases e)
  (by
   rintro i (rfl|hi) v i' j' u ⟨k1,k2,k3⟩
   ·refine⟨by rw[hσid];exact oC (iW k1 hver),k2,fun blk e=> ?_⟩
    rw[hσid]at e
    cases e
    omega
   ·refine⟨by rw[hσA i hi];exact k1,k2,fun blk e=> ?_⟩
    rw[hσA i hi]at e
    cases e)
  (by
   rintro i blk (rfl|hi) D T
   ·rw[hσid]at D
    cases D
    rw[aD]
    rcases hpM with⟨z,h2,H,_⟩ |⟨b,cap,cur,z,h2,H,_,R⟩
    ·exact .inl ⟨by rw[aD];exact z,h2,H⟩
    ·exact .inr ⟨b,cap,cur,L,by rw[aD];exact z,h2,R⟩
   ·rw[hσA i hi]at D;cases D)
  (by
   rintro i blk (rfl|hi) D x hx
   ·rw[aD]at hx
    rcases hpM with⟨z,h2,H,_⟩ |⟨b,cap,cur,z,R,h5,H,_⟩
    ·rw[H]at hx;simp at hx
    ·rw[R]at hx
     rcases List.mem_cons.1 hx with rfl|hx
     ·rcases H with H|⟨H,h6⟩
      ·obtain⟨j,blk,hj,h7,h8⟩:=hvo x H
       exact .inl ⟨j,blk,hj,h7,h8⟩
      ·exact .inr ⟨by omega,h6⟩
     ·obtain⟨j,blk,hj,h7,h8⟩:=hL x hx
      exact .inl ⟨j,blk,hj,h7,h8⟩
   ·rw[hσA i hi]at D;cases D)
  (by
   rintro i blk (rfl|hi) D
   ·rw[aD]
    rcases hpM with⟨z,h2,H,R⟩ |⟨b,cap,cur,z,R,h5,_⟩
    ·rw[H];simp
    ·rw[R];exact List.nodup_cons.2 ⟨hgL b (by rw[h5];simp[Value.ownBlock]),hLn⟩
   ·rw[hσA i hi]at D;cases D)
  (by
   rintro i i' b1 b2 (rfl|hi) (rfl|hi') hb1 hb2 hne
   ·exact absurd rfl hne
   ·rw[hσA i' hi']at hb2;cases hb2
   ·rw[hσA i hi]at hb1;cases hb1
   ·rw[hσA i hi]at hb1;cases hb1)
  (by
   rintro i q hq (rfl|hi)
   ·exact absurd hq (hid q)
   ·obtain⟨_,cs,e,_⟩:=h.ext i q hq
    obtain⟨blk,e2,e3⟩:=hAr i hi
    rw[e]at e2;cases e2
    exact absurd rfl (e3 cs))
  (by
   rintro q u n hq (e|e)
   ·exact absurd e (h.rx_far h99 q u n hq)
   ·exact absurd rfl (h.rx_far (h99A _ e) q u n hq))
  (by
   cases Y:vo with
   | none=>exact h.frm.grow I.os I.tape I.output I.size fun b hb=>I.block b hb (by rw[Y];simp)
   | some g=>
    obtain⟨j,blk,hj,z,h2⟩:=hvo g Y
    refine Frm.turn h j blk z I.os I.tape I.output I.size (fun b hb hn=>I.block b hb fun e=>hn ?_) fun i2 b2 off2 n hi2 hn hm=> ?_
    ·rw[Y]at e;cases e;exact h2
    ·exfalso
     obtain⟨e1,cs',e2,e3⟩:=h.ext i2 _ hi2
     have hne:i2≠j:=fun e=>by
      subst e
      rcases hj with rfl|hj
      ·exact hid _ hi2
      ·obtain⟨blk',q1,q2⟩:=hAr i2 hj
       rw[e2]at q1;cases q1;exact q2 _ rfl
     have hb2:=h.blk i2 _ e2
     obtain⟨b3,off3,_,_,p1,p2,_⟩:=hb2
     rw[e1]at p1
     cases p1
     exact h.disj i2 j _ _ e2 z hne b2 (by rw[p2];simp) hm)
  (by
   refine X.cl w w' h.env fun b hb=>W b (by have:=X.hw;have:=h.frm.size;omega) ?_
   rintro i blk hi z hm
   rcases h.new i blk z b hm with h2|h2
   ·have:=X.hG b h2;omega
   ·have:=X.hw;omega)
 refine⟨_,_,hst',?_⟩
 show oF w' (eN J id p) σ' id ver 0 l.length true v'
 refine KM hσid .d ?_
 rw[aD]
 rcases hpM with⟨z,h2,H,R⟩ |⟨b,cap,cur,z,R,h5,h6,h7⟩
 ·exact .inl ⟨z,h2,R⟩
 ·exact .inr ⟨b,cap,cur,z,h5,h7.2.1,h7.2.2.1,h7.2.2.2.2.1⟩
theorem aBZ (h:St X ⟨t,s⟩ w tm J N) {id:Nat} {l:List (ty k)} (hid:s id=⟨ver,some (.rowd k l)⟩) :
  ∃N',St X ⟨t,eN s id ⟨ver,some (.rowb k l)⟩⟩ w tm J N'/\Tr (Fz X w N s) (Fz X w N' (eN s id ⟨ver,some (.rowb k l)⟩)) w w J J s (eN s id ⟨ver,some (.rowb k l)⟩):=by
 have z:(s id).blk=some (.rowd k l):=by rw[hid]
 have Y:=h.blk id _ z
 obtain⟨L,hL,M,hbC⟩:∃L:List Nat,L.Nodup/\(∀x∈L,x∈N id)/\∀(S':Nat->Prop) σ,(∀x∈N id,x∉L->S' x)->yE S' w J σ L id (.rowb k l):=by
  rcases Y with⟨h1,R,h3⟩ |⟨b,cap,cur,L,h1,R,h3⟩
  ·exact⟨[],nT,(fun x D=>by cases D),fun S' σ _=> .inl ⟨h1,R,rfl⟩⟩
  ·refine⟨[b],by simp,(fun x D=>by rw[R,List.mem_singleton.1 D];simp),fun S' σ hS'=> .inr ⟨b,cap,cur,h1,rfl,h3.cont fun x D=>hS' x (by rw[R];simp[D]) fun hm=> ?_⟩⟩
   have hn:(b::L).Nodup:=by rw[<-R];exact h.nodup id _ z
   rw[List.mem_singleton.1 hm]at D
   exact(List.nodup_cons.1 hn).1 D
 have hfz:∀x∈N id,x∉L->Fz X w (eN N id L) (eN s id ⟨ver,some (.rowb k l)⟩) x:=fun x D hxL=>by
  refine⟨h.lt id _ z x D,?_,.inr (h.new id _ z x D)⟩
  rintro⟨i,bk,q1,q2⟩
  by_cases I:i=id
  ·subst I;rw[aD]at q2;exact hxL q2
  ·rw[bU _ _ I]at q1 q2;exact h.disj i id _ _ q1 z I x q2 D
 have:=St.step (Z:=⟨t,s⟩) h (eN s id ⟨ver,some (.rowb k l)⟩) (· = id) (w':=w) (J':=J) (N':=eN N id L) (bB _) (fun _ _ _=>rfl) (fun i I=>⟨bU _ _ I,rfl,bU _ _ I⟩)
  (by
   rintro i rfl v o n f u ⟨H,k2,k3⟩
   refine⟨by rw[aD];have H:v<=(s i).ver:=H;rw[hid]at H;exact H,k2,fun b2 k2' l2 e hr2=> ?_⟩
   rw[aD]at e
   cases e
   cases hr2
   exact k3 _ _ _ hid .d)
  (by
   rintro i rfl v i' j' u ⟨H,k2,k3⟩
   refine⟨by rw[aD];have H:v<=(s i).ver:=H;rw[hid]at H;exact H,k2,fun b2 e=> ?_⟩
   rw[aD]at e
   cases e
   exact k3 _ hid)
  (by
   rintro i b rfl W T
   rw[aD]at W
   cases W
   rw[aD]
   exact hbC _ _ hfz)
  (by
   rintro i b rfl W x D
   rw[aD]at D
   exact .inl ⟨i,_,rfl,z,M x D⟩)
  (by
   rintro i b rfl W
   rw[aD]
   exact hL)
  (by
   rintro i i' b b' rfl rfl _ _ hne
   exact absurd rfl hne)
  (by
   rintro j p hj rfl
   obtain⟨_,cs,e,_⟩:=h.ext j p hj
   have e:(s j).blk=_:=e
   rw[z]at e;cases e)
  (fun q u n hq e=>h.rx_same hid .d .b rfl q u n hq e) h.frm h.env
 exact⟨_,this.2,this.1⟩
end
open Go.RowKit
def rdL {α:Type}:List Nat->cU->(cU->eM α)->eM α
 | [],f,k=>k f
 | id::l,f,k=> .rd id fun e=>rdL l (eN f id e) k
def zS:cU:=fun _=>⟨0,none⟩
def uC:List PV->List Nat
 | []=> []
 | .ref id _ _ _ _::l=>id::uC l
 | .ptr id _ _ _::l=>id::uC l
 | _::l=>uC l
def aMP {α:Type} (id:Nat) (next:eM α):eM α:= .rd id fun e=>match e with
 | ⟨ver,some (.rowx k l i cs)⟩=>rdL (uC cs) zS fun f=>match yG f k cs with
  | some (y,A)=>MZ A (.wr id ⟨ver,some (.rowd k (l.set i y))⟩ next)
  | none=> .fail
 | _=>next
def aB0 {α:Type}:List Nat->eM α->eM α
 | [],k=>k
 | id::l,k=>aMP id (aB0 l k)
def TI {α:Type} (p:PV) (next:eM α):eM α:=match p with
 | .ref id _ _ _ _=> .rd id fun e=>match e with
  | ⟨ver,some (.rowd k l)⟩=> .wr id ⟨ver,some (.rowb k l)⟩ next
  | _=>next
 | _=>next
section
variable {P:Program} {PC:rU} {X:mM} {nt:Nat} {Q:Exit->Act->World->Prop} {Z:gU} {a:Act} {w:World} {o:Oper} {v:PV} {t:Nat->PV} {s s':cU} {r wr:List Nat}
variable {J:Nat->Option (Nat×Nat)} {N:Nat->List Nat} {tm:Array Value} {S:Nat->Prop} {σ:cU}
theorem ZU {α:Type} {k:cU->eM α} {b:α}:∀{ids:List Nat} {f:cU} {r wr:List Nat},(rdL ids f k).Run PC s b s' r wr->∃e D,(∀i,i∈ids->e i=s i)/\(∀i,i∉ids->e i=f i)/\(k e).Run PC s b s' D wr
 | [],f,r,wr,h=>⟨f,r,(fun _ h=>by cases h),fun _ _=>rfl,h⟩
 | id::l,f,r,wr,h=>by
  obtain⟨W,rfl,h⟩:=h
  obtain⟨e,D,M,I,R⟩:=ZU h
  refine⟨e,D,fun i z=> ?_,fun i z=> ?_,R⟩
  ·by_cases H:i∈l
   ·exact M i H
   ·have:i=id:=by simpa [H]using z
    subst this
    rw[I i H,aD]
  ·simp only[dS,not_or]at z
   rw[I i z.2,bU _ _ z.1]
theorem XJ {g:cU} (h:∀i,i∈uC [p]->f i=g i):iC f p=iC g p:=by
 cases p with
 | ref id ver off n full=>simp only[iC];rw[h id (by simp[uC])]
 | ptr id ver i j=>simp only[iC];rw[h id (by simp[uC])]
 | row own k l=>cases own<;>rfl
 | _=>rfl
theorem I3 {f g:cU}:∀{cs:List PV},(∀i,i∈uC cs->f i=g i)->mT f cs=mT g cs
 | [],_=>rfl
 | p::ps,h=>by
  have e:∀i,i∈uC [p]->f i=g i:=fun i z=>h i (by cases p<;>simp_all[uC])
  have D:∀i,i∈uC ps->f i=g i:=fun i z=>h i (by cases p<;>simp_all[uC])
  unfold mT
  rw[XJ e,I3 D]
theorem I4 {g:cU} {cs:List PV} (h:∀i,i∈uC cs->f i=g i):yG f k cs=yG g k cs:=by
 unfold yG
 rw[I3 h]
theorem aIy {id:Nat} {next:eM α} {b:α} (h:St X ⟨t,s⟩ w tm J N) (e:(aMP id next).Run PC s b s' r wr):∃s1 N1 z D,St X ⟨t,s1⟩ w tm J N1/\next.Run PC s1 b s' z D:=by
 obtain⟨R,rfl,e⟩:=e
 simp only at e
 split at e
 ·rename_i ver k l i cs H
  obtain⟨f,W,I,_,e⟩:=ZU e
  rw[I4 I]at e
  split at e
  ·rename_i y A M
   obtain⟨Y,w3,e⟩:=sF e
   obtain⟨w4,rfl,e⟩:=e
   obtain⟨N',st,_⟩:=KX h H M
   exact⟨_,_,_,_,st,e⟩
  ·exact e.elim
 ·exact⟨_,_,_,_,h,e⟩
theorem aB1 {α:Type} {next:eM α} {b:α}:∀{ids:List Nat} {s:cU} {N:Nat->List Nat} {r wr:List Nat},St X ⟨t,s⟩ w tm J N->(aB0 ids next).Run PC s b s' r wr->∃s1 N1 z D,St X ⟨t,s1⟩ w tm J N1/\next.Run PC s1 b s' z D
 | [],s,N,r,wr,h,e=>⟨_,_,_,_,h,e⟩
 | id::l,s,N,r,wr,h,e=>by
  obtain⟨s1,N1,z,D,H,I⟩:=aIy h e
  exact aB1 H I
theorem A5 {ids:List Nat} {E:eM α} {b:α} (H:cE X nt Z a w) (h:(aB0 ids E).Run PC Z.s b s' r wr):∃s1 e z,cE X nt ⟨Z.t,s1⟩ a w/\E.Run PC s1 b s' e z:=by
 obtain⟨I,M,J,N,D⟩:=H
 obtain⟨s1,N1,e,z,R,W⟩:=aB1 (t:=Z.t) D h
 exact⟨s1,e,z,⟨I,M,J,N1,R⟩,W⟩
theorem WX {E:eM α} {b:α} (e:cE X nt Z a w) (h:(TI p E).Run PC Z.s b s' r wr):∃s1 D H,cE X nt ⟨Z.t,s1⟩ a w/\E.Run PC s1 b s' D H:=by
 unfold TI at h
 split at h
 ·obtain⟨W,rfl,h⟩:=h
  simp only at h
  split at h
  ·rename_i ver k l I
   obtain⟨w',rfl,h⟩:=h
   obtain⟨M,R,J,N,z⟩:=e
   obtain⟨N',st,_⟩:=aBZ (t:=Z.t) z I
   exact⟨_,_,_,⟨M,R,J,N',st⟩,h⟩
  ·exact⟨_,_,_,e,h⟩
 ·exact⟨_,_,_,e,h⟩
theorem bZ.pt {as:List d4}:∀{us:List Value},as.length=us.length->(∀(m:Nat) lf u,as[m]?=some lf->us[m]?=some u->iE w lf u [])->bZ (iE w) as us []:=by
 induction as with
 | nil=>intro us e _;cases us with
  | nil=>rfl
  | cons=>simp at e
 | cons a as ih=>
  intro us e h
  cases us with
  | nil=>simp at e
  | cons u us=>exact⟨[],[],rfl,h 0 a u rfl rfl,ih (by simpa using e) fun m lf u z D=>h (m+1) lf u (by simpa using z) (by simpa using D)⟩
theorem aAC (I:St X Z w tm J N) {id:Nat} {l:List (ty k)} (hid:Z.s id=⟨ver,some (.rowd k l)⟩) (hv:oF w J Z.s id ver off n true u) :
  n=l.length/\l.length<=9223372036854775807/\∃xs L,jR w (mJ k) (size k) u l.length xs/\bZ (iE w) (l.flatMap aG) xs L/\L.Nodup/\(∀x∈L,x∈N id)/\(∀g,u.ownBlock=some g->g∈N id/\g∉L)/\
   ∃pa c,u= .slice pa l.length c/\(l.length≠0->∃b off,pa=some ⟨b,off,none⟩/\∀(j:Nat) q,xs[j]?=some q->w.cell? ⟨b,off+j,none⟩ = some q):=by
 have M:(Z.s id).blk=some (.rowd k l):=by rw[hid]
 obtain⟨_,_,h3⟩:=hv
 obtain⟨e1,H⟩:=h3 _ _ _ hid .d
 have z:=I.blk id _ M
 rcases H with⟨H,e3⟩ |⟨b,c,o2,H,e3,e4,e5,e6⟩
 ·rcases z with⟨_,e,_⟩ |⟨b,cap,cur,L,q,_⟩
  ·subst e
   have hn:n=0:=by simp at e1;omega
   subst hn
   subst e3
   exact⟨rfl,by simp,[],[],⟨by simp,.inl ⟨rfl,rfl⟩⟩,rfl,nT,(fun x hx=>by cases hx),(fun g R=>by simp[Value.ownBlock]at R),none,0,rfl,fun h=>absurd rfl h⟩
  ·rw[H]at q;cases q
 ·obtain⟨f1,f2,f3⟩:=e6 rfl
  rcases z with⟨q,_⟩ |⟨b',cap,cur,L,q1,q2,q3⟩
  ·rw[H]at q;cases q
  ·rw[H]at q1;cases q1
   have ho2:o2=0:=by have h9:=e5 (.inr rfl);rw[f1,iI]at h9;exact h9
   subst ho2
   have D:c=cap:=by
    obtain⟨fz,hh,_⟩:=q3.2.1
    have h7:=f3 cur _ fz hh
    have h8:=q3.2.2.2.2.1
    rw[h7]at h8
    exact Nat.eq_of_mul_eq_mul_right (mH _) h8
   have W:(b::L).Nodup:=by rw[<-q2];exact I.nodup id _ M
   obtain⟨a1,a2,a3,a4,a5,a6⟩:=q3
   have hle:l.length*size k<=cur.size:=by rw[a5];exact bF _ a3
   subst f2
   refine⟨rfl,a1,cur.toList.take (l.length*size k),L,⟨by simp;omega,.inr ⟨b,c,cur,e4,cT _,a2,e3,by rw[D];exact a4,by rw[D];exact a5,rfl⟩⟩,a6,(List.nodup_cons.1 W).2,(fun x hx=>by rw[q2];simp[hx]),(fun g R=> ?_),some ⟨b,0,none⟩,c,e4,fun _=>⟨b,0,rfl,fun j q Y=> ?_⟩⟩
   ·rw[e4]at R
    simp only[Value.ownBlock,Option.some.injEq]at R
    subst R
    exact⟨by rw[q2];simp,(List.nodup_cons.1 W).1⟩
   ·rw[bP,a2.cell]
    rw[aU]at Y
    split at Y
    ·simpa using Y
    ·cases Y
theorem bZ.one {as:List d4}:∀{us:List Value} {L:List Nat},bZ (iE w) as us L->∀u∈us,u.oneCell'=true:=by
 induction as with
 | nil=>intro us L h u hu;cases us with
  | nil=>cases hu
  | cons=>exact h.elim
 | cons a as ih=>
  intro us L h u hu
  cases us with
  | nil=>cases hu
  | cons x us=>
   obtain⟨L1,L2,_,e,z⟩:=h
   rcases List.mem_cons.1 hu with rfl|hu
   ·exact e.one
   ·exact ih z u hu
end
open Go.RowKit
def rX (o:Oper):Nat:=rS o+1000000000
def DY (o:Oper) (t:TypeId) (l c:PV):eM PV:=match F3 t with
 | none=> .fail
 | some k=>match flat k with
  | true=>HD o t l c
  | false=>match l,c with
   | .v (.int _ l),.v (.int _ c)=>NR (0<=l/\l<=c) (NR (cR k c.toNat) (pG (rX o) (.rowd k (List.replicate l.toNat (zK k))) fun ver=> .ret (.ref (rX o) ver 0 l.toNat true)))
   | _,_=> .fail
def aD4 (o:Oper) (k:K) (v:PV) (els:eM PV):eM PV:=rdL (uC (jJ v)) zS fun f=>match yG f k (jJ v)with
 | some (y,A)=>(match A.any (Nat.beq (rX o))with
  | true=> .fail
  | false=>if(jJ v).length=size k/\size k<=16777216 then MZ A (pG (rX o) (.rowd k [y]) fun ver=> .ret (.ref (rX o) ver 0 1 true))else .fail)
 | none=>els
def BE (o:Oper) (t:TypeId) (n:Nat) (parts:List (Nat×PV)):eM PV:=match F3 t with
 | none=> .fail
 | some k=>match flat k with
  | true=>tL o t n parts
  | false=>match n,parts with
   | 1,[(0,v)]=>aD4 o k v (tL o t n parts)
   | n,parts=>tL o t n parts
section
variable {P:Program} {PC:rU} {X:mM} {nt:Nat} {Q:Exit->Act->World->Prop} {Z:gU} {a:Act} {w:World} {o:Oper} {v:PV} {t:Nat->PV} {s s':cU} {r wr:List Nat}
variable {J:Nat->Option (Nat×Nat)} {N:Nat->List Nat} {tm:Array Value} {S:Nat->Prop} {σ:cU}
theorem PH (o:Oper):99<=rX o:=by unfold rX;omega
theorem JA (hF:fT P) {t:TypeId} (ho:o.op= .makeSlice t x y) (hx:dI nt x=true) (hy:dI nt y=true) (hg:cE X nt Z a w) (h:(DY o t (opd Z.t x) (opd Z.t y)).Run PC Z.s v s' r wr) :
  o.wp P a w (fun a' w'=>cE X nt ⟨eJ o.dst v Z.t,s'⟩ a' w') Q:=by
 obtain⟨hs,hd,J,N,H⟩:=id hg
 have hv:=H.opd hs hx
 have R:=H.opd hs hy
 unfold DY at h
 split at h
 case h_1=>exact h.elim
 rename_i k ht
 split at h
 case h_1=>exact LC hF ho hx hy hg h
 split at h
 case h_2=>exact h.elim
 rename_i kl l kc c he hey
 rw[he]at hv
 rw[hey]at R
 obtain⟨W,h⟩:(0<=l/\l<=c)/\_:=h
 obtain⟨⟨g1,g2⟩,h⟩:=h
 obtain⟨r',wr',h⟩:=fA h
 obtain⟨rfl,rfl,-,-⟩:v=_/\s'=_/\r'=[]/\wr'=[]:=h
 obtain⟨i,z,q1,q2,q3,q4,q5,q6⟩:=hF.el k
 have D:=run_make (P:=P) w t (mJ k) i z (hF.sl t k ht) q1 q2 kl kc l c W.1 W.2 (by
  rw[q4]
  have:((c.toNat*byt k:Nat):Int)<=140737488355328:=by omega
  rw[Int.natCast_mul]at this
  have h2:((c.toNat:Nat):Int)=c:=by omega
  rw[h2,Int.mul_comm]at this
  omega) (by omega)
 rw[q3]at D
 have e:(List.replicate l.toNat (zK k)).length=l.toNat:=List.length_replicate ..
 have I:(madeCells z.cells (c.toNat*size k)).size=c.toNat*size k:=by rw[size_madeCells]
 have Y:l.toNat*size k<=c.toNat*size k:=bF _ (by omega)
 have hown:jR (w.alloc (.cells (madeCells z.cells (c.toNat*size k)) (mJ k))) (mJ k) (size k) (.slice (some ⟨w.heap.size,0,none⟩) l.toNat c.toNat) (List.replicate l.toNat (zK k)).length ((madeCells z.cells (c.toNat*size k)).toList.take (l.toNat*size k)):=by
  rw[e]
  exact⟨by rw[aF,d5,I];exact fQ Y,.inr ⟨w.heap.size,c.toNat,_,rfl,cT _,gY.of (heap_alloc_new w _),by omega,by unfold maxLen;omega,I,rfl⟩⟩
 have hd0:bZ (iE (w.alloc (.cells (madeCells z.cells (c.toNat*size k)) (mJ k)))) ((List.replicate l.toNat (zK k)).flatMap aG) ((madeCells z.cells (c.toNat*size k)).toList.take (l.toNat*size k)) []:=by
  refine bZ.pt (by rw[yW,e,aF,d5,I];exact(fQ Y).symm) fun m lf u hm hu=> ?_
  have hml:m<l.toNat*size k:=by have:=(iR.1 hm).1;rwa[yW,e]at this
  have hp:=mH k
  have hi:m / size k<l.toNat:=(Nat.div_lt_iff_lt_mul hp).2 hml
  have hx:(List.replicate l.toNat (zK k))[m / size k]?=some (zK k):=by rw[List.getElem?_replicate,if_pos hi]
  have hm2:=DZ hx (Nat.mod_lt m hp)
  rw[Nat.div_add_mod',hm]at hm2
  obtain⟨u',hu',hl⟩:=q6.2 (m % size k) lf hm2.symm
  rw[aU,if_pos hml]at hu
  have M:(madeCells z.cells (c.toNat*size k))[m]?=some u:=by simpa using hu
  have hzs:z.cells.size=size k:=by rw[q6.1,cP]
  rw[GO (by omega) (by rw[hzs];exact hp),hzs]at M
  rw[hu']at M;cases M
  cases lf with
  | sc q=>exact⟨hl,rfl⟩
  | nest k' l'=>obtain⟨rfl,rfl⟩:=hl;exact iO.2 (.inl ⟨rfl,rfl,rfl⟩)
 obtain⟨J',N',st1,v1⟩:=F4 H (rX o) ((Z.s (rX o)).ver+1) (PH o) (cM _) (A:=[]) (by simp) (by simp) (by simp) (by rw[e];exact aX (by omega) g1) hown hd0 nT (World.grownBy_alloc w _ none) (by simp) (.inr (by simp[Value.ownBlock])) (by simp) (by simp)
 rw[e]at v1
 refine jM hs hd ?_ st1 v1
 unfold execOp
 simp only[ho,hv.1,R.1,Sem.run_bind,Sem.run_pure,Result.andThen_ok,D]
theorem I7 {f:cU}:∀{cs qs:List PV} {A B:List Nat} {ls:List aA},mT f cs=some (qs,A,B)->BD qs=some ls->cs.all mI=true
 | [],_,_,_,_,_,_=>rfl
 | p::ps,qs,A,B,ls,h,D=>by
  unfold mT at h
  split at h
  ·rename_i q a b qs' c d e H
   cases h
   unfold BD at D
   split at D
   ·rename_i x l z I
    rw[cI,aB]
    refine⟨?_,I7 H I⟩
    cases p<;>try rfl
    case row own k l=>
     cases own with
     | false=>rfl
     | true=>simp[iC]at e
    case agg=>simp[iC]at e
    case tup=>simp[iC]at e
    case obj=>simp[iC]at e
    case un=>simp[iC]at e;rw[<-e.1]at z;simp[aAB]at z
    case dead=>simp[iC]at e;rw[<-e.1]at z;simp[aAB]at z
    case drow=>simp[iC]at e
    case gb=>simp[iC]at e
   ·cases D
  ·cases h
theorem aAw {cs:List PV} {y:ty k} {A:List Nat} (h:yG f k cs=some (y,A)):∃qs ls,mT f cs=some (qs,A,[])/\yK A=true/\(∀a∈A,99<=a)/\BD qs=some ls/\nJ k ls=some y:=by
 unfold yG at h
 split at h
 case h_2=>cases h
 rename_i qs A' z
 split at h
 case h_2=>cases h
 rename_i ls e D
 split at h
 case h_2=>cases h
 rename_i M H
 cases h
 rw[aB]at e
 exact⟨qs,ls,z,e.1,fun a I=>bY (List.all_eq_true.1 e.2 a I),D,H⟩
theorem aCt {s:cU}:∀{ps qs:List PV} {A B:List Nat},mT s ps=some (qs,A,B)->∀a∈A,∃blk,(s a).blk=some blk/\∀cs,blk≠ .box cs:=fun{ps qs A B} h a z=>by
 obtain⟨blk,D⟩:=(MU h).1 a z
 exact⟨blk,D,fun cs e=>(VQ h).1 a z cs (by rw[D,e])⟩
theorem HA (hF:fT P) {t:TypeId} {parts:Array (Nat×Operand)} (ho:o.op= .buildSlice t n parts) (hx:(parts.toList.map (·.2)).all (dI nt)=true) (hg:cE X nt Z a w) (h:(BE o t n (parts.toList.map fun x=>(x.1,opd Z.t x.2))).Run PC Z.s v s' r wr) :
  o.wp P a w (fun a' w'=>cE X nt ⟨eJ o.dst v Z.t,s'⟩ a' w') Q:=by
 obtain⟨hs,hd,J,N,I⟩:=id hg
 unfold BE at h
 split at h
 case h_1=>exact h.elim
 rename_i k hk
 split at h
 case h_1=>exact qG hF ho hx hg h
 split at h
 case h_2=>exact qG hF ho hx hg h
 rename_i v0 R
 obtain⟨x,rfl,hvx⟩:∃x,parts= #[(0,x)]/\opd Z.t x=v0:=by
  obtain⟨l⟩:=parts
  match l,R with
  | [(j,x)],R=>
   simp only[bR,iH,List.cons.injEq,Prod.mk.injEq,and_true]at R
   obtain⟨rfl,h2⟩:=R
   exact⟨x,rfl,h2⟩
 unfold aD4 at h
 obtain⟨f,r',hf,_,h⟩:=ZU h
 rw[I4 hf]at h
 split at h
 case h_2=>exact qG hF ho hx hg h
 rename_i y A hc
 split at h
 case h_1=>exact h.elim
 rename_i hA0
 split at h
 case isFalse=>exact h.elim
 rename_i hlen
 obtain⟨r1,w1,h⟩:=sF h
 obtain⟨r2,w2,h⟩:=fA h
 obtain⟨rfl,rfl,-,-⟩:v=_/\s'=_/\r2=[]/\w2=[]:=h
 obtain⟨qs,ls,c1,c2,c3,c4,c5⟩:=aAw hc
 have hv:gM (Fz X w N Z.s) w J Z.s v0 (a.eval x):=by rw[<-hvx];exact I.opd hs (by simpa using hx)
 obtain⟨us,hus,Y,hone⟩:=pF hv (I7 c1 c4)
 have hul:=Y.len
 obtain⟨H,hown⟩:=xE (S':=Fz X w N Z.s) (J':=J) (σ':=Z.s) I (fun _ h=>h) Y c1 (fun id hid=>by cases hid)
 have hdl:=DW c4 (iX c5) hown
 have hAn:=tR c2
 obtain⟨i,z,q1,q2,q3,q4,q5,q6⟩:=hF.el k
 have D:us.length=size k:=by rw[<-hul];exact hlen.1
 have hsid:rX o∉A:=fun hm=>by
  have:=List.any_eq_false.1 hA0 _ hm
  rw[oA]at this
  exact this rfl
 have hmem:∀z∈(A.map N).flatten,∃a∈A,z∈N a:=fun z W=>by
  obtain⟨q,hq,W⟩:=List.mem_flatten.1 W
  obtain⟨a,ha,rfl⟩:=List.mem_map.1 hq
  exact⟨a,ha,W⟩
 have hlt:∀z∈(A.map N).flatten,z<w.heap.size:=fun z W=>by
  obtain⟨a,ha,hza⟩:=hmem z W
  obtain⟨blk,hb⟩:=H a ha
  exact I.lt a blk hb z hza
 have hheap:=heap_alloc_new w (.cells us.toArray (mJ k))
 have hd1:bZ (iE (w.alloc (.cells us.toArray (mJ k)))) ([y].flatMap aG) us (A.map N).flatten:=by
  rw[dD,List.flatMap_nil,bO]
  exact bZ.mono (fun lf u M hM h=>iE.keep h fun z W=>Below.heap_alloc w _ z (hlt z (hM z W))) hdl
 have hown1:jR (w.alloc (.cells us.toArray (mJ k))) (mJ k) (size k) (.slice (some ⟨w.heap.size,0,none⟩) 1 1) [y].length us:=by
  refine⟨by simp[D],.inr ⟨w.heap.size,1,us.toArray,rfl,cT _,gY.of hheap,by simp,by unfold maxLen;omega,by simp[D],by rw[fV,Nat.one_mul,<-D];simp⟩⟩
 obtain⟨J',N',st1,v1⟩:=F4 I (rX o) ((iP A Z.s (rX o)).ver+1) (PH o) (by rw[vZ,if_neg hsid];exact cM _) hsid (aCt c1) c3 (by simp) hown1 hd1 (I.nodups hAn H) (World.grownBy_alloc w _ none) (by simp) (.inr (by simp[Value.ownBlock])) (fun z W=>by
   obtain⟨a,ha,hza⟩:=hmem z W
   obtain⟨blk,hb⟩:=H a ha
   exact⟨a,blk,.inr ha,hb,hza⟩) (fun g hg hm=>by
   simp only[Value.ownBlock,Option.some.injEq]at hg
   subst hg
   exact absurd (hlt _ hm) (Nat.lt_irrefl _))
 refine jM hs hd (u:= .slice (some ⟨w.heap.size,0,none⟩) 1 1) ?_ st1 v1
 have hsz:=mH k
 have hfill:Instr.fill (fun i=>some (i*size k,size k)) (madeCells z.cells (1*size k)) [(0,a.eval x)]=some us.toArray:=by
  have hm:(madeCells z.cells (1*size k)).size=size k:=by rw[size_madeCells,Nat.one_mul]
  rw[Instr.fill]
  simp only[hus,kY]
  have hm':(madeCells z.cells (size k)).size=size k:=by rw[size_madeCells]
  rw[if_neg (by simp[D,hm'])]
  have:=D0 (0*size k) us (madeCells z.cells (1*size k)) (by rw[iI,bP,D,hm];exact bB _)
  rw[this]
  have e:splice (madeCells z.cells (1*size k)).toList (0*size k) us=us:=by
   unfold splice
   rw[iI,List.take_zero,cV,bP,D,List.drop_eq_nil_of_le (by rw[d5,hm];exact bB _),bO]
  rw[e]
  rfl
 have hrun:=run_buildSlice (P:=P) w t (mJ k) 1 #[(0,a.eval x)] us.toArray i z (hF.sl t k hk) q1 q2 (by rw[q3];omega) (by rw[q3];omega) (by rw[q3];exact hfill)
 unfold execOp
 simp only[ho,Sem.run_bind,lT,bR,iH,hrun,Result.andThen_ok,Sem.run_pure]
end
open Go.RowKit
def PI (o:Oper) (k:K) (d:PV) (id2:Nat) (l2:List (ty k)):eM PV:=match d with
 | .nil=>(match Nat.beq id2 (rX o)with
  | true=> .fail
  | false=>NR (cR k l2.length) (MZ [id2] (pG (rX o) (.rowd k l2) fun ver=> .ret (.ref (rX o) ver 0 l2.length true))))
 | .ref id ver _ _ full=>oG id ver fun
  | .rowd _ l1=>(match vX k l1 with
   | some l=>(match full,Nat.ble 99 id,Nat.beq id2 id with
    | true,true,false=>NR (cR k (l++l2).length) (MZ [id2] (.wr id ⟨ver+1,some (.rowd k (l++l2))⟩ (.ret (.ref id (ver+1) 0 (l++l2).length true))))
    | _,_,_=> .fail)
   | none=> .fail)
  | .box _=> .fail
  | .rowb _ _=> .fail
  | .objb _=> .fail
  | .iterb _ _ _ _ _=> .fail
  | .rowx _ _ _ _=> .fail
 | _=> .fail
def aGV (d:PV) (next:Bool->eM PV):eM PV:=match d with
 | .nil=>next true
 | .ref id _ _ _ _=> .rd id fun e=>match e with
  | ⟨_,some (.rowd _ _)⟩=>next true
  | _=>next false
 | _=>next false
def PK (o:Oper) (t:TypeId) (d s:PV):eM PV:=match F3 t with
 | none=> .fail
 | some k=>match flat k with
  | true=>uO o t d s
  | false=>match s with
   | .ref id2 ver2 _ _ full2=> .rd id2 fun e2=>match e2 with
    | ⟨v2,some (.rowd _ l2)⟩=>(match full2,Nat.beq v2 ver2,Nat.ble 99 id2,vX k l2 with
     | true,true,true,some l2=>aGV d fun b=>match b with
      | true=>PI o k d id2 l2
      | false=>TI s (TI d (uO o t d s))
     | _,_,_,_=>TI s (TI d (uO o t d s)))
    | _=>TI d (uO o t d s)
   | _=>TI d (uO o t d s)
section
variable {P:Program} {PC:rU} {X:mM} {nt:Nat} {Q:Exit->Act->World->Prop} {Z:gU} {a:Act} {w:World} {o:Oper} {v:PV} {t:Nat->PV} {s s':cU} {r wr:List Nat}
variable {J:Nat->Option (Nat×Nat)} {N:Nat->List Nat} {tm:Array Value} {S:Nat->Prop} {σ:cU}
theorem PJ (hF:fT P) {t:TypeId} (ht:F3 t=some k) (ho:o.op= .call {callee:= .builtin .append,args:= #[x,y],argTypes:= #[t,t]}) (hx:dI nt x=true) (hy:dI nt y=true) (hg:cE X nt Z a w) {D ver2 off2 n2:Nat} {l2:List (ty k)} (hye:opd Z.t y= .ref D ver2 off2 n2 true) (h2:Z.s D=⟨ver2,some (.rowd k l2)⟩) (h299:99<=D) (h:(PI o k (opd Z.t x) D l2).Run PC Z.s v s' r wr) :
  o.wp P a w (fun a' w'=>cE X nt ⟨eJ o.dst v Z.t,s'⟩ a' w') Q:=by
 obtain⟨hs,hd,J,N,I⟩:=id hg
 have hv:=I.opd hs hx
 have hvy:=I.opd hs hy
 rw[hye]at hvy
 have Y:(Z.s D).blk=some (.rowd k l2):=by rw[h2]
 obtain⟨hn2,hl263,xs2,L2,own2,d2,nd2,in2,ob2,pa,c,he,hnews⟩:=aAC I h2 hvy
 have fin:∀(vv u:Value) (w':World),a.eval x=vv->(Builtin.append_ #[t,t] o.type #[vv,a.eval y]).run P w= .ok u w'->(execOp a.eval o).run P w= .ok (.value u) w':=by
  intro vv u w' e R
  unfold execOp
  simp only[ho,resolve,invoke,builtin,Sem.run_bind,Sem.run_pure,Result.andThen_ok,lT,bR,iH,e,R]
 have hr2:∀a∈[D],∃blk,(Z.s a).blk=some blk/\∀cs,blk≠ .box cs:=fun a ha=>by
  rw[List.mem_singleton.1 ha];exact⟨_,Y,fun cs e=>by cases e⟩
 have h99A:∀a∈[D],99<=a:=fun a ha=>by rw[List.mem_singleton.1 ha];exact h299
 have lt2:∀z∈L2,z<w.heap.size:=fun z hz=>I.lt D _ Y z (in2 z hz)
 unfold PI at h
 split at h
 case h_3=>exact h.elim
 case h_1=>
  rename_i hxe
  rw[hxe]at hv
  split at h
  case h_1=>exact h.elim
  rename_i H
  have H:rX o∉[D]:=fun hm=>by
   rw[List.mem_singleton.1 hm,oA]at H;cases H
  obtain⟨⟨g1,g2⟩,h⟩:=h
  obtain⟨r1,w1,h⟩:=sF h
  obtain⟨r',wr',h⟩:=fA h
  obtain⟨rfl,rfl,-,-⟩:v=_/\s'=_/\r'=[]/\wr'=[]:=h
  obtain⟨v',w',R,W,hgr,hvb⟩:=xA (P:=P) (w:=w) (ty':=o.type) hF ht (v:= .slice none 0 0) (n:=0) (xs:=[]) ⟨by simp,.inl ⟨rfl,rfl⟩⟩ (m:=l2.length) (c:=c) (news:=xs2) own2.1 hnews d2.one (by omega) (by rw[bP];exact g2)
  rw[bP,cV]at W
  have hvo:(Value.slice none 0 0).ownBlock=none:=rfl
  rw[hvo]at hgr hvb
  have hd1:bZ (iE w') (l2.flatMap aG) xs2 L2:=bZ.mono (fun lf u M hM h=>iE.keep h fun z hz=>hgr.block z (lt2 z (hM z hz)) (by simp)) d2
  obtain⟨J',N',q1,q2⟩:=F4 I (rX o) ((iP [D] Z.s (rX o)).ver+1) (PH o) (by rw[vZ,if_neg H];exact cM _) H hr2 h99A hl263 W hd1 nd2 hgr (by simp) hvb (fun z hz=>⟨D,_,.inr (by simp),Y,in2 z hz⟩) (fun g hg hm=>by
   rcases hvb with e|e
   ·rw[hg]at e;cases e
   ·rw[hg]at e;cases e;exact Nat.lt_irrefl _ (lt2 _ hm))
  exact jM hs hd (fin _ v' w' hv (by rw[he];exact R)) q1 q2
 case h_2=>
  rename_i id ver off n full hxe
  rw[hxe]at hv
  obtain⟨blk,r',hb,-,h⟩:=fM h
  cases blk with
  | box cs=>exact h.elim
  | objb o=>exact h.elim
  | iterb=>exact h.elim
  | rowb=>exact h.elim
  | rowx=>exact h.elim
  | rowd k' l'=>
   simp only at h
   split at h
   case h_2=>exact h.elim
   rename_i l hcl
   obtain⟨rfl,rfl⟩:=hU hcl
   split at h
   case h_2=>exact h.elim
   have h99:Nat.ble 99 id=true:=by assumption
   have H:Nat.beq D id=false:=by assumption
   have h99:=bY h99
   have H:id≠D:=fun e=>by rw[e,oA]at H;cases H
   have hnm:id∉[D]:=by simpa using H
   obtain⟨⟨g1,g2⟩,h⟩:=h
   obtain⟨r1,w1,h⟩:=sF h
   obtain⟨w3,-,h⟩:=h
   rw[aW]at g1 g2
   obtain⟨rfl,rfl,-,-⟩:v=_/\s'=_/\r1=[]/\w3=[]:=h
   have hb1:(Z.s id).blk=some (.rowd k' l):=by rw[hb]
   obtain⟨hn1,hl163,xs1,L1,own1,d1,nd1,in1,ob1,pa1,c1,he1,_⟩:=aAC I hb hv
   have lt1:∀z∈L1,z<w.heap.size:=fun z hz=>I.lt id _ hb1 z (in1 z hz)
   obtain⟨v',w',R,W,hgr,hvb⟩:=xA (P:=P) (w:=w) (ty':=o.type) hF ht own1 (m:=l2.length) (c:=c) (news:=xs2) own2.1 hnews d2.one g1 g2
   have hoL:∀g,(a.eval x).ownBlock=some g->g∉L1++L2:=fun g hg hm=>by
    obtain⟨o1,o2⟩:=ob1 g hg
    rcases List.mem_append.1 hm with hm|hm
    ·exact o2 hm
    ·exact I.disj id D _ _ hb1 Y H g o1 (in2 g hm)
   have hkeep:∀z,z∈L1++L2->w'.heap[z]?=w.heap[z]?:=fun z hz=>hgr.block z (by
    rcases List.mem_append.1 hz with hz|hz
    ·exact lt1 z hz
    ·exact lt2 z hz) fun e=>hoL z e.symm hz
   have hdd:bZ (iE w') ((l++l2).flatMap aG) (xs1++xs2) (L1++L2):=by
    rw[cH]
    exact bZ.mono (fun lf u M hM h=>iE.keep h fun z hz=>hkeep z (hM z hz)) (d1.app d2)
   obtain⟨J',N',q1,q2⟩:=F4 I id (ver+1) h99 (by rw[hb];exact cM _) hnm hr2 h99A (l:=l++l2) (by rw[aW];exact g1) (by rw[aW];exact W) hdd
    (List.nodup_append.2 ⟨nd1,nd2,fun z hz z' hz' e=>I.disj id D _ _ hb1 Y H z (in1 z hz) (in2 z (e▸hz'))⟩) hgr (fun g hg=>⟨id,_,.inl rfl,hb1,(ob1 g hg).1⟩) hvb
    (fun z hz=>by
     rcases List.mem_append.1 hz with hz|hz
     ·exact⟨id,_,.inl rfl,hb1,in1 z hz⟩
     ·exact⟨D,_,.inr (by simp),Y,in2 z hz⟩)
    (fun g hg hm=>by
     rcases hvb with e|e
     ·rw[hg]at e;exact hoL g e.symm hm
     ·rw[hg]at e;cases e
      rcases List.mem_append.1 hm with hm|hm
      ·exact Nat.lt_irrefl _ (lt1 _ hm)
      ·exact Nat.lt_irrefl _ (lt2 _ hm))
   exact jM hs hd (fin _ v' w' rfl (by rw[he];exact R)) q1 q2
theorem aEY {d:PV} {next:Bool->eM PV} {b:PV} (h:(aGV d next).Run PC s b s' r wr):∃c e,(next c).Run PC s b s' e wr:=by
 unfold aGV at h
 split at h
 ·exact⟨_,_,h⟩
 ·obtain⟨e,rfl,h⟩:=h
  simp only at h
  split at h<;>exact⟨_,_,h⟩
 ·exact⟨_,_,h⟩
theorem PM (I:fT P) {t:TypeId} (M:o.op= .call {callee:= .builtin .append,args:= #[x,y],argTypes:= #[t,t]}) (R:dI nt x=true) (W:dI nt y=true) (e:cE X nt Z a w) (h:(PK o t (opd Z.t x) (opd Z.t y)).Run PC Z.s v s' r wr) :
  o.wp P a w (fun D w'=>cE X nt ⟨eJ o.dst v Z.t,s'⟩ D w') Q:=by
 have Y:∀{s1:cU} {r wr:List Nat},cE X nt ⟨Z.t,s1⟩ a w->(TI (opd Z.t x) (uO o t (opd Z.t x) (opd Z.t y))).Run PC s1 v s' r wr->o.wp P a w (fun D w'=>cE X nt ⟨eJ o.dst v Z.t,s'⟩ D w') Q:=by
  intro s1 r wr e h
  obtain⟨s2,r1,w1,z,h2⟩:=WX (Z:=⟨Z.t,s1⟩) e h
  exact GK (Z:=⟨Z.t,s2⟩) I M R W z h2
 have u2:∀{r wr:List Nat},(TI (opd Z.t y) (TI (opd Z.t x) (uO o t (opd Z.t x) (opd Z.t y)))).Run PC Z.s v s' r wr->o.wp P a w (fun D w'=>cE X nt ⟨eJ o.dst v Z.t,s'⟩ D w') Q:=by
  intro r wr h
  obtain⟨s2,r1,w1,z,h2⟩:=WX e h
  exact Y z h2
 unfold PK at h
 split at h
 case h_1=>exact h.elim
 rename_i k ht
 split at h
 case h_1=>exact GK I M R W e h
 split at h
 case h_2=>exact Y (s1:=Z.s) e h
 rename_i id2 ver2 off2 n2 full2 hye
 obtain⟨r',rfl,h⟩:=h
 simp only at h
 split at h
 case h_2=>exact Y (s1:=Z.s) e h
 rename_i v2 k2 l2' he2
 split at h
 case h_2=>exact u2 h
 rename_i l2 hcl
 have hv2:Nat.beq v2 ver2=true:=by assumption
 have H:Nat.ble 99 id2=true:=by assumption
 obtain⟨rfl,rfl⟩:=hU hcl
 obtain rfl:=aS hv2
 obtain⟨b,r2,h⟩:=aEY h
 cases b with
 | true=>exact PJ I ht M R W e hye he2 (bY H) h
 | false=>exact u2 h
end
open Go.RowKit
def aJc:MK->Value->Bool
 | .s,.string _=>true
 | .i,.int .i64 _=>true
 | .b,.bool _=>true
 | _,_=>false
theorem V6 {m:MK} {v:Value} (h:aJc m v=true):MapKept.IsKey m.td v:=by
 unfold aJc at h
 split at h
 ·trivial
 ·rfl
 ·trivial
 ·cases h
def QT (m:MK) (o:Obj) (kv vv:Value):Option Obj:=match o with
 | .map es cl=>match Instr.findNow m.td kv es.toList 0 with
  | some none=>some (.map (es.push {key:=kv,val:=vv,born:=cl}) (cl+1))
  | some (some (i,_))=>if Instr.sameBits 10000 (((es[i]?).map (·.key)).getD kv) kv=true then some (.map (es.modify i fun e=> {e with key:=kv,val:=vv}) cl)else none
  | none=>none
 | _=>none
def WD (m:MK) (o:Obj) (kv:Value):Option (Option Value):=match o with
 | .map es _=>match Instr.findNow m.td kv es.toList 0 with
  | some (some (_,x))=>some (some x)
  | some none=>some none
  | none=>none
 | _=>none
def mpB (m:MK) (o:Obj) (kv:Value):Option Bool:=match WD m o kv with
 | some none=>some false
 | some (some (.bool b))=>some b
 | _=>none
def mpI (m:MK) (o:Obj) (kv:Value):Option Int:=match WD m o kv with
 | some none=>some 0
 | some (some (.int .i64 n))=>if IntKind.i64.wrap n=n then some n else none
 | _=>none
def mpS (m:MK) (o:Obj) (kv:Value) (z:ByteArray):Option ByteArray:=match WD m o kv with
 | some none=>some z
 | some (some (.string x))=>if x.size<=9223372036854775807 then some x else none
 | _=>none
def XY:Obj:= .map #[] 0
def aAF (o:Oper):eM PV:=pG (rS o) (.objb XY) fun ver=> .ret (.ptr (rS o) ver 0 0)
def OB (t:TypeId) (m k v:PV):eM PV:=match aK6 t,m,k,v with
 | some (mk,_),.ptr id ver _ 0,.v kv,.v vv=>(match aJc mk kv with
  | true=>oG id ver fun
   | .objb ob=> .opt (QT mk ob kv vv) fun ob'=> .wr id ⟨ver,some (.objb ob')⟩ (.ret .un)
   | _=> .fail
  | false=> .fail)
 | _,_,_,_=> .fail
def aMq (mk:MK) (z:Value) (ob:Obj) (kv:Value):eM PV:=match z with
 | .bool false=> .opt (mpB mk ob kv) fun b=> .ret (.v (.bool b))
 | .int .i64 0=> .opt (mpI mk ob kv) fun n=> .ret (.v (.int .i64 n))
 | .string z=> .opt (mpS mk ob kv z) fun x=> .ret (.v (.string x))
 | _=> .fail
def XT (t:TypeId) (m k:PV):eM PV:=match aK6 t,m,k with
 | some (mk,z),.ptr id ver _ 0,.v kv=>(match aJc mk kv with
  | true=>oG id ver fun
   | .objb ob=>aMq mk z ob kv
   | _=> .fail
  | false=> .fail)
 | _,_,_=> .fail
section
variable {P:Program} {PC:rU} {X:mM} {nt:Nat} {Q:Exit->Act->World->Prop} {Z:gU} {a:Act} {w:World} {o:Oper} {v:PV} {s':cU} {r wr:List Nat}
theorem aBY {tm:Array Value} (h:St X Z w tm J N) {id b:Nat} {ob ob':Obj} (hid:Z.s id=⟨ver,some (.objb ob)⟩) (hβ:J id=some (b,0)) (hv:QW ob' b=QW ob b) (W:w'= {w with heap:=w.heap.setIfInBounds b ob'}) :
  St X ⟨Z.t,eN Z.s id ⟨ver,some (.objb ob')⟩⟩ w' tm J N:=by
 have z:(Z.s id).blk=some (.objb ob):=by rw[hid]
 obtain⟨b',q1,q2,q3⟩:=h.blk id _ z
 rw[hβ]at q1;cases q1
 have hlt:b<w.heap.size:=(Array.getElem?_eq_some_iff.1 q3).1
 have Y:w'.heap.size=w.heap.size:=by rw[W];simp
 have hnew:w'.heap[b]?=some ob':=by rw[W];simp[hlt]
 have hold:∀x,x≠b->w'.heap[x]?=w.heap[x]?:=fun x R=>by rw[W];show(w.heap.setIfInBounds b ob')[x]?=_;rw[Array.getElem?_setIfInBounds_ne (Ne.symm R)]
 have D:∀x,x<w.heap.size->x∉N id->w'.heap[x]?=w.heap[x]?:=fun x _ R=>hold x (fun e=>R (by rw[q2,e];simp))
 refine(St.step (Z:=Z) h (eN Z.s id ⟨ver,some (.objb ob')⟩) (· = id) (by rw[Y];exact bB _) (fun x R hc=>D x R (hc id _ rfl z)) (fun i hi=>⟨bU _ _ hi,rfl,rfl⟩) ?_ ?_ ?_ ?_ ?_ ?_ ?_ ?_ ?_ ?_).2
 ·rintro i rfl v o n f u ⟨k1,k2,k3⟩
  refine⟨by rw[aD];rw[hid]at k1;exact k1,k2,fun blk k l e hr=> ?_⟩
  rw[aD]at e
  cases e
  cases hr
 ·rintro i rfl v i' j' u ⟨k1,k2,k3⟩
  refine⟨by rw[aD];rw[hid]at k1;exact k1,k2,fun blk e=> ?_⟩
  rw[aD]at e
  cases e
  obtain⟨b2,off,e1,H⟩:=k3 _ hid
  rw[hβ]at e1;cases e1
  exact⟨b,0,hβ,fun hj=>⟨rfl,by rw[(H hj).2,hv]⟩⟩
 ·rintro i blk rfl I T
  rw[aD]at I
  cases I
  exact⟨b,hβ,q2,hnew⟩
 ·rintro i blk rfl I x R
  exact .inl ⟨i,_,rfl,z,R⟩
 ·rintro i blk rfl I
  exact h.nodup i _ z
 ·rintro i i' b1 b2 rfl rfl _ _ M
  exact absurd rfl M
 ·rintro i p hp rfl
  obtain⟨e1,cs',H,e3⟩:=h.ext i p hp
  rw[z]at H
  cases H
 ·rintro q u n hq he
  obtain⟨_,blk,k,l,h2,h3,_⟩:=h.rxt q u n hq
  rw[he,hid]at h2
  cases h2
  cases h3
 ·refine Frm.turn h id _ z (by rw[W]) (by rw[W]) (by rw[W]) (by rw[Y];exact bB _) D fun i b2 off2 n hi hn hm=> ?_
  have hm':b2=b:=by rw[q2]at hm;simpa using hm
  subst hm'
  obtain⟨e1,cs',H,e3⟩:=h.ext i _ hi
  by_cases M:i=id
  ·subst M;rw[z]at H;cases H
  ·obtain⟨b3,off3,_,_,p1,p2,_⟩:=h.blk i _ H
   rw[e1]at p1
   cases p1
   exact absurd hm (h.disj i id _ _ H z M b2 (by rw[p2];simp))
 ·exact X.cl _ _ h.env fun x R=>hold x (by
   rintro rfl
   have:=h.new id _ z x (by rw[q2];simp)
   rcases this with h1|h1
   ·have:=X.hG x h1;omega
   ·have:=X.hw;omega)
theorem PQ {t:TypeId} (H:o.op= .makeMap t none) (I:cE X nt Z a w) (h:(aAF o).Run PC Z.s v s' r wr):o.wp P a w (fun M w'=>cE X nt ⟨eJ o.dst v Z.t,s'⟩ M w') Q:=by
 obtain⟨R,W,J,N,D⟩:=id I
 obtain⟨Y,wr',h⟩:=fA h
 obtain⟨rfl,rfl,-,-⟩:v=_/\s'=_/\Y=[]/\wr'=[]:=h
 have z:=heap_alloc_new w (Obj.map #[] 0)
 refine jM (u:= .map (some w.heap.size)) R W ?_ (OH (w':=w.alloc (.map #[] 0)) D (rS o) (xX o) (.objb (.map #[] 0)) (some (w.heap.size,0)) [w.heap.size] rfl rfl rfl (by simp) (fun b hb=>Below.heap_alloc w _ b hb) (by simp) (by simp) fun T=>⟨_,by rw[aD],rfl,z⟩).2 ?_
 ·unfold execOp
  simp only[H]
  simp[Instr.makeMap,Option.map]
 ·refine⟨by show _<=(eN Z.s _ _ _).ver;rw[aD];exact bB _,.inr ⟨_,rfl⟩,fun blk e=> ?_⟩
  rw[aD]at e
  cases e
  exact⟨w.heap.size,0,by rw[aD],fun _=>⟨rfl,rfl⟩⟩
theorem GL (hF:fT P) {t:TypeId} {z:Operand} (ho:o.op= .insert t x y z∨o.op= .mapUpdate t x y z) (hx:dI nt x=true) (hy:dI nt y=true) (hz:dI nt z=true) (hg:cE X nt Z a w) (h:(OB t (opd Z.t x) (opd Z.t y) (opd Z.t z)).Run PC Z.s v s' r wr):o.wp P a w (fun a' w'=>cE X nt ⟨eJ o.dst v Z.t,s'⟩ a' w') Q:=by
 obtain⟨I,hd,J,N,H⟩:=id hg
 have hv:=H.opd I hx
 have M:=H.opd I hy
 have R:=H.opd I hz
 unfold OB at h
 split at h
 case h_2=>exact h.elim
 rename_i mk z0 id ver i0 kv vv e1 e2 e3 e4
 rw[e2]at hv;rw[e3]at M;rw[e4]at R
 split at h
 case h_2=>exact h.elim
 rename_i hk
 obtain⟨_,_,k3⟩:=hv
 obtain⟨blk,r',W,er,h2⟩:=fM h
 subst er
 clear h
 have h:=h2
 clear h2
 try simp only at h
 split at h
 case h_2=>exact h.elim
 rename_i ob
 obtain⟨ob',D,w2,-,rfl,rfl,-,-⟩:=h
 obtain⟨b,off,hβ,q⟩:=k3 _ W
 obtain⟨q0,q'⟩:=q rfl
 subst q0
 clear q
 obtain⟨b',f1,f2,Y⟩:=H.blk id _ (by rw[W])
 rw[hβ]at f1;cases f1
 obtain⟨kt,et,m1,m2,m3⟩:=(hF.mp t mk z0 e1).2
 have hc:(Instr.checkKey false 10000 kt kv).run P w= .ok () w:=MapKept.run_checkKey (k:=kv) m2 (V6 hk) false 9999
 have q:a.eval x=QW ob b:=q'
 have ey:a.eval y=kv:=M.1
 have ez:a.eval z=vv:=R.1
 unfold QT at D
 split at D
 case h_2=>cases D
 rename_i es cl
 split at D
 ·rename_i hf
  cases D
  refine sU I hd ?_ (aBY H W hβ (ob':= .map (es.push {key:=kv,val:=vv,born:=cl}) (cl+1)) rfl rfl)
  unfold execOp
  rcases ho with ho|ho<;>simp only[ho,q,ey,ez,QW] <;>
  simp[Instr.mapUpdate,run_underlying m1,MapKept.run_getObj_map Y,hc,MapKept.run_findKey m2 hf,MapKept.run_setObj_map _ Y,Result.andThen]
 ·rename_i i vv0 hf
  split at D
  case isFalse=>cases D
  rename_i hsb
  cases D
  refine sU I hd ?_ (aBY H W hβ (ob':= .map (es.modify i fun e=> {e with key:=kv,val:=vv}) cl) rfl rfl)
  have hks:(Instr.keyThatStays (((es[i]?).map (·.key)).getD kv) kv).run P w= .ok kv w:=by
   simp[Instr.keyThatStays,hsb]
  unfold execOp
  rcases ho with ho|ho<;>simp only[ho,q,ey,ez,QW] <;>
  simp only[Instr.mapUpdate,Sem.run_bind,run_underlying m1,MapKept.run_getObj_map Y,hc,MapKept.run_findKey m2 hf,hks,MapKept.run_setObj_map _ Y,Result.andThen] <;>
  first|rfl|simp
 ·cases D
theorem TV (hF:fT P) {t:TypeId} (ho:o.op= .lookup t x y false) (z:dI nt x=true) (hy:dI nt y=true) (I:cE X nt Z a w) (h:(XT t (opd Z.t x) (opd Z.t y)).Run PC Z.s v s' r wr):o.wp P a w (fun a' w'=>cE X nt ⟨eJ o.dst v Z.t,s'⟩ a' w') Q:=by
 obtain⟨M,W,J,N,H⟩:=id I
 have hv:=H.opd M z
 have Y:=H.opd M hy
 unfold XT at h
 split at h
 case h_2=>exact h.elim
 rename_i mk z0 id ver i0 kv e1 e2 e3
 rw[e2]at hv;rw[e3]at Y
 split at h
 case h_2=>exact h.elim
 rename_i hk
 obtain⟨_,_,k3⟩:=hv
 obtain⟨blk,r',hb,er,h2⟩:=fM h
 subst er
 clear h
 have h:=h2
 clear h2
 try simp only at h
 split at h
 case h_2=>exact h.elim
 rename_i ob
 obtain⟨b,off,hβ,q⟩:=k3 _ hb
 obtain⟨q0,q'⟩:=q rfl
 subst q0
 clear q
 obtain⟨b',f1,f2,f3⟩:=H.blk id _ (by rw[hb])
 rw[hβ]at f1;cases f1
 obtain⟨R,kt,et,m1,m2,m3⟩:=hF.mp t mk z0 e1
 have hc:∀e,(Instr.checkKey e 10000 kt kv).run P w= .ok () w:=fun e=>MapKept.run_checkKey (k:=kv) m2 (V6 hk) e 9999
 have q:a.eval x=QW ob b:=q'
 have ey:a.eval y=kv:=Y.1
 have key:∀res,WD mk ob kv=some res->(execOp a.eval o).run P w= .ok (.value (res.getD z0)) w:=by
  intro res D
  unfold WD at D
  split at D
  case h_2=>cases D
  rename_i es cl
  split at D
  ·rename_i i x0 hf
   cases D
   unfold execOp
   simp only[ho,q,ey,QW]
   simp[Instr.lookup,run_underlying m1,MapKept.run_getObj_map f3,hc,MapKept.run_findKey m2 hf,Result.andThen]
  ·rename_i hf
   cases D
   unfold execOp
   simp only[ho,q,ey,QW]
   simp[Instr.lookup,run_underlying m1,MapKept.run_getObj_map f3,hc,MapKept.run_findKey m2 hf,Result.andThen,m3]
  ·cases D
 unfold aMq at h
 split at h
 ·obtain⟨x,z,rfl,rfl,-,-⟩:=h
  unfold mpB at z
  split at z
  ·rename_i I;cases z;exact cK M W H (u:= .bool false) (key _ I) ⟨rfl,R⟩
  ·rename_i b0 I;cases z;exact cK M W H (u:= .bool x) (key _ I) ⟨rfl,trivial⟩
  ·cases z
 ·obtain⟨x,z,rfl,rfl,-,-⟩:=h
  unfold mpI at z
  split at z
  ·rename_i I;cases z;exact cK M W H (u:= .int .i64 0) (key _ I) ⟨rfl,R⟩
  ·rename_i b0 I
   split at z
   ·rename_i hw;cases z;exact cK M W H (u:= .int .i64 x) (key _ I) ⟨rfl,hw⟩
   ·cases z
  ·cases z
 ·rename_i z1
  obtain⟨x,z,rfl,rfl,-,-⟩:=h
  unfold mpS at z
  split at z
  ·rename_i I;cases z;exact cK M W H (u:= .string z1) (key _ I) ⟨rfl,R⟩
  ·rename_i b0 I
   split at z
   ·rename_i hw;cases z;exact cK M W H (u:= .string x) (key _ I) ⟨rfl,hw⟩
   ·cases z
  ·cases z
 ·exact h.elim
end
open Go.RowKit
section
variable {P:Program} {PC:rU} {X:mM} {nt:Nat} {Q:Exit->Act->World->Prop} {Z:gU} {a:Act} {w:World} {o:Oper} {v:PV} {s':cU} {r wr:List Nat}
def CO {α:Type} (l:List α) (p:Nat) (l2:List α):List α:=l.take p++l2++l.drop (p+l2.length)
theorem aHT {l l2:List α} {p:Nat} (h:p+l2.length<=l.length):(CO l p l2).length=l.length:=by
 simp only[CO,aW,aF,cA];omega
theorem aJm {l l2:List α} {p:Nat} (h:p+l2.length<=l.length) (e:i<l2.length):(CO l p l2)[p+i]?=l2[i]?:=by
 unfold CO
 rw[aQ,bI (by simp;omega),bM (by simp;omega)]
 congr 1
 simp;omega
theorem aHU {l l2:List α} {p:Nat} (h:p+l2.length<=l.length) (hi:i<p∨p+l2.length<=i):(CO l p l2)[i]?=l[i]?:=by
 unfold CO
 rcases hi with hi|hi
 ·rw[aQ,bM (by simp;omega),aU,if_pos hi]
 ·rw[bI (by simp;omega),bK]
  congr 1
  simp only[aW,aF]
  omega
theorem TB {tm:Array Value} (h:St X Z w tm J N) {id:Nat} {l l2:List (ty k)} {us:List Value} {p b:Nat} (hid:Z.s id=⟨ver,some (.rowb k l)⟩) (hβ:J id=some (b,0))
  (hp:p+l2.length<=l.length) (hv:fF (Fz X w N Z.s) w l2 us) :
  ∃cur E,gY w b cur E/\p*size k+us.length<=cur.size/\St X ⟨Z.t,eN Z.s id ⟨ver,some (.rowb k (CO l p l2))⟩⟩ (w.setRow b (iL cur (p*size k) us)) tm J N:=by
 have hb:=h.blk id _ (by rw[hid])
 rcases hb with⟨e,_⟩ |⟨b',cap,cur,q1,q2,q3,q4,q5,q6,q7,q8⟩
 ·rw[hβ]at e;cases e
 rw[hβ]at q1;cases q1
 obtain⟨hul,hcv⟩:=hv
 have H:=aHT hp
 have hmul:(p+l2.length)*size k<=cap*size k:=bF _ (by omega)
 rw[cF]at hmul
 have M:p*size k+us.length<=cur.size:=by rw[q7,hul];exact hmul
 refine⟨cur,mJ k,q4,M,?_⟩
 have hsz:=CN M
 obtain⟨fz,hh,hice⟩:=q4
 have hnew:(w.setRow b (iL cur (p*size k) us)).heap[b]?=some (.cells (iL cur (p*size k) us) (mJ k) fz):=setRow_heap w b cur _ _ fz hh
 have I:∀z,z<w.heap.size->z∉N id->(w.setRow b (iL cur (p*size k) us)).heap[z]?=w.heap[z]?:=fun z _ hz=>setRow_other w b z _ (fun e=>hz (by rw[q2,e];simp))
 have D:(Z.s id).blk=some (.rowb k l):=by rw[hid]
 refine(St.step (Z:=Z) h (eN Z.s id ⟨ver,some (.rowb k (CO l p l2))⟩) (· = id) (by simp) (fun z hz hc=>I z hz (hc id _ rfl D)) (fun i hi=>⟨bU _ _ hi,rfl,rfl⟩) ?_ ?_ ?_ ?_ ?_ ?_ ?_ (h.rx_same hid .b .b H) ?_ ?_).2
 ·rintro Y rfl v o n f u ⟨k1,k2,k3⟩
  refine⟨by rw[aD];rw[hid]at k1;exact k1,k2,fun blk' k' l' e hr=> ?_⟩
  rw[aD]at e
  cases e
  cases hr
  obtain⟨p1,p2⟩:=k3 _ k l hid .b
  refine⟨by rw[H];exact p1,?_⟩
  rcases p2 with p2|⟨b2,c,o2,p3,p4,p5,p5o,p6⟩
  ·exact .inl p2
  ·refine .inr ⟨b2,c,o2,p3,p4,p5,p5o,fun hf=> ?_⟩
   obtain⟨p7,p8,p9⟩:=p6 hf
   rw[hβ]at p3;cases p3
   refine⟨p7,by rw[H];exact p8,fun c2 E2 fz2 hc2=> ?_⟩
   rw[hnew]at hc2
   cases hc2
   rw[hsz]
   exact p9 cur _ fz hh
 ·rintro Y rfl v R j' u ⟨k1,k2,k3⟩
  refine⟨by rw[aD];rw[hid]at k1;exact k1,k2,fun blk e=> ?_⟩
  rw[aD]at e
  cases e
  obtain⟨b2,off2,p1,p2⟩:=k3 _ hid
  exact⟨b2,off2,p1,by show off2=0/\R<(CO l p l2).length/\_;rw[H];exact p2⟩
 ·rintro Y blk rfl hbk T
  rw[aD]at hbk
  cases hbk
  refine .inr ⟨b,cap,_,hβ,q2,by rw[H];exact q3,⟨fz,hnew,by rw[hsz];exact hice⟩,by rw[H];exact q5,q6,by rw[hsz];exact q7,fun R x' W j' lf hlf=> ?_⟩
  have tl:∀{lf:d4} {u:Value},mY (Fz X w N Z.s) w lf u->mY (Fz X (w.setRow b (iL cur (p*size k) us)) N (eN Z.s Y ⟨ver,some (.rowb k (CO l p l2))⟩)) (w.setRow b (iL cur (p*size k) us)) lf u:=by
   intro lf u hl
   cases lf with
   | sc q=>exact hl
   | nest k' l'=>exact T.row hl
  have hj':j'<size k:=by have:=(iR.1 hlf).1;rwa[cP]at this
  have hil:R<l.length:=by have:=(iR.1 W).1;rwa[H]at this
  by_cases hii:p<=R/\R<p+l2.length
  ·obtain⟨m,rfl⟩:∃m,R=p+m:=⟨R-p,by omega⟩
   rw[aJm hp (by omega)]at W
   obtain⟨u,hu,hl⟩:=hcv m x' W j' lf hlf
   have hm:m*size k+j'<us.length:=by rw[hul];exact nI (by omega) hj'
   exact⟨u,by show(iL cur (p*size k) us)[(p+m)*size k+j']?=some u;rw[show(p+m)*size k+j'=p*size k+(m*size k+j') by rw[cF];omega,KK M hm];exact hu,tl hl⟩
  ·rw[aHU hp (by omega)]at W
   obtain⟨u,h9,h10⟩:=q8 R x' W j' lf hlf
   refine⟨u,?_,tl h10⟩
   show(iL cur (p*size k) us)[R*size k+j']?=some u
   rw[pU M ?_]
   ·exact h9
   ·rcases rP R p with h11|h11
    ·left
     exact nI h11 hj'
    ·right
     have h12:(p+l2.length)*size k<=R*size k:=bF _ (by omega)
     rw[cF]at h12
     rw[hul];omega
 ·rintro Y blk rfl hbk z hz
  exact .inl ⟨Y,_,rfl,D,hz⟩
 ·rintro Y blk rfl hbk
  exact h.nodup Y _ D
 ·rintro Y R b1 b2 rfl rfl _ _ hne
  exact absurd rfl hne
 ·rintro Y p hp rfl
  obtain⟨e1,cs',e2,e3⟩:=h.ext Y p hp
  rw[D]at e2
  cases e2
 ·refine Frm.turn h id _ D rfl rfl rfl (by simp) I fun i2 b2 off2 n hi2 hn hm=> ?_
  exfalso
  have hm':b2=b:=by rw[q2]at hm;simpa using hm
  subst hm'
  obtain⟨e1,cs',e2,e3⟩:=h.ext i2 _ hi2
  have hne:i2≠id:=fun e=>by subst e;rw[D]at e2;cases e2
  have hb2:=h.blk i2 _ e2
  obtain⟨b3,off3,_,_,p1,p2,_⟩:=hb2
  rw[e1]at p1
  cases p1
  exact h.disj i2 id _ _ e2 D hne b2 (by rw[p2];simp) hm
 ·exact St.env_turn h id _ D I
def aCD (t:TypeId) (x:PV):eM PV:=match F3 t,x with
 | some _,.nil=> .ret (.tup [])
 | some k,.ref id ver off n _=>oG id ver fun
  | .rowb _ l=>(match vX k l with
   | some l=> .wr id ⟨ver,some (.rowb k (CO l off (List.replicate n (zK k))))⟩ (.ret (.tup []))
   | none=> .fail)
  | _=> .fail
 | _,_=> .fail
def aG0 (t:TypeId) (x y:PV):eM PV:=match F3 t,x with
 | some k,.ref id ver off n _=>(HG k y).bind fun l2=>oG id ver fun
  | .rowb _ l=>(match vX k l with
   | some l=> .wr id ⟨ver,some (.rowb k (CO l off (l2.take n)))⟩ (.ret (.v (.int .i64 ((l2.take n).length:Nat))))
   | none=> .fail)
  | _=> .fail
 | _,_=> .fail
theorem fF.take {S:Nat->Prop} {k:K} {l:List (ty k)} {xs:List Value} (h:fF S w l xs) (m:Nat) (H:m<=l.length):fF S w (l.take m) (xs.take (m*size k)):=by
 obtain⟨M,R⟩:=h
 have z:m*size k<=l.length*size k:=bF _ H
 refine⟨by simp only[aF];rw[M,fQ z,fQ H],fun i x D j lf e=> ?_⟩
 have I:i<m:=by have:=(iR.1 D).1;simp at this;omega
 rw[aU,if_pos I]at D
 have W:j<size k:=by have:=(iR.1 e).1;rwa[cP]at this
 obtain⟨u,Y,hl⟩:=R i x D j lf e
 exact⟨u,by show(xs.take (m*size k))[i*size k+j]?=some u;rw[aU,if_pos (nI I W)];exact Y,hl⟩
theorem aBC {tm:Array Value} (D:St X Z w tm J N) {id:Nat} {full:Bool} {l:List (ty k)} (H:Z.s id=⟨ver,some (.rowb k l)⟩) (I:oF w J Z.s id ver off n full u) :
  (u= .slice none 0 0/\l=[]/\n=0/\off=0)∨∃b c o,J id=some (b,0)/\u= .slice (some ⟨b,o,none⟩) n c/\n<=c/\off+n<=l.length/\(n≠0->o=off*size k):=by
 obtain⟨_,_,M⟩:=I
 obtain⟨z,q2⟩:=M _ k l H .b
 rcases q2 with⟨q2,q3⟩ |⟨b,c,R,q2,q3,q4,q5,_⟩
 ·have W:=uD .b (D.blk id _ (by rw[H]))
  rcases W with⟨_,e,_⟩ |⟨b,cap,cur,q,_⟩
  ·subst e;simp at z;exact .inl ⟨q3,rfl,z.2,z.1⟩
  ·rw[q2]at q;cases q
 ·exact .inr ⟨b,c,R,q2,q4,q3,z,fun Y=>q5 (.inl Y)⟩
theorem KL (l:List α) (p:Nat):CO l p []=l:=by simp[CO]
theorem F6 {e:Ent} (h:f i=e):eN f i e=f:=by
 funext j
 unfold eN
 split
 ·rename_i z;rw[z,h]
 ·rfl
theorem XO (W:fT P) {t:TypeId} (ho:o.op= .call {callee:= .builtin .clear,args:= #[x],argTypes:= #[t]}) (hx:dI nt x=true) (hg:cE X nt Z a w) (h:(aCD t (opd Z.t x)).Run PC Z.s v s' r wr) :
  o.wp P a w (fun a' w'=>cE X nt ⟨eJ o.dst v Z.t,s'⟩ a' w') Q:=by
 obtain⟨Y,hd,J,N,H⟩:=id hg
 have R:=H.opd Y hx
 have fin:∀(w':World),(Builtin.clear_ #[t] o.type #[a.eval x]).run P w= .ok (.tuple #[]) w'->(execOp a.eval o).run P w= .ok (.value (.tuple #[])) w':=by
  intro w' hrun
  unfold execOp
  simp only[ho,resolve,invoke,builtin,Sem.run_bind,Sem.run_pure,Result.andThen_ok,lT,bR,iH,hrun]
 unfold aCD at h
 split at h
 ·rename_i k ht he
  rw[he]at R
  obtain⟨rfl,rfl,-,-⟩:v=_/\s'=_/\r=[]/\wr=[]:=h
  have R:a.eval x= .slice none 0 0:=R
  refine cK Y hd H (fin w ?_) ⟨#[],rfl,trivial⟩
  rw[R]
  simp[Builtin.clear_,run_underlying (W.sl t k ht)]
 ·rename_i k id ver off n full ht he
  rw[he]at R
  obtain⟨blk,r',hb,rfl,h⟩:=fM h
  cases blk with
  | rowb I l1=>
   simp only at h
   split at h
   case h_2=>exact h.elim
   rename_i l hcl
   obtain⟨rfl,rfl⟩:=hU hcl
   obtain⟨w2,-,rfl,rfl,-,-⟩:=h
   rcases aBC H hb R with⟨e1,rfl,rfl,rfl⟩ |⟨b,c,o2,e1,e2,e3,e4,e5⟩
   ·rw[List.replicate_zero,KL,F6 hb]
    refine cK Y hd H (fin w ?_) ⟨#[],rfl,trivial⟩
    rw[e1]
    simp[Builtin.clear_,run_underlying (W.sl t _ ht)]
   ·by_cases hn:n=0
    ·subst hn
     rw[List.replicate_zero,KL,F6 hb]
     refine cK Y hd H (fin w ?_) ⟨#[],rfl,trivial⟩
     rw[e2]
     simp[Builtin.clear_,run_underlying (W.sl t _ ht)]
    ·obtain⟨i,z,q1,q2,q3,q4,q5,q6⟩:=W.el I
     have D:fF (Fz X w N Z.s) w (List.replicate n (zK I)) (madeCells z.cells (n*size I)).toList:=by
      refine⟨by simp[size_madeCells],?_⟩
      have:=LP (w:=w) (S:=Fz X w N Z.s) (n:=n) (c:=n) q6 (bB _)
      simpa using this
     obtain⟨cur,E,r1,r2,st1⟩:=TB H hb e1 (l2:=List.replicate n (zK I)) (p:=off) (by simpa using e4) D
     refine jM (u:= .tuple #[]) Y hd (fin _ ?_) st1 ⟨#[],rfl,trivial⟩
     rw[e2,e5 hn]
     have M:=kG P b (off*size I) E (madeCells z.cells (n*size I)).toList 0 cur w r1 (by simpa using r2) (fun u hu=>D.one u hu)
     have hzc:Builtin.zeroCells z.cells n=madeCells z.cells (n*size I):=by
      unfold Builtin.zeroCells madeCells
      rw[q5]
     have hnz:∀(q:Prop),n=0->q:=fun q e=>absurd e hn
     simp only[eY]at M
     cases n with
     | zero=>exact absurd rfl hn
     | succ n=>
      simp only[Builtin.clear_,iT,jF,Sem.run_bind,run_underlying (W.sl t I ht),Result.andThen_ok]
      have hzv:(zeroValue (mJ I)).run P w= .ok z w:=by simp[zeroValue,typeInfo,q1,q2]
      simp only[hzv,Result.andThen_ok,hzc,M,Sem.run_pure]
      rfl
  | _=>exact h.elim
 ·exact h.elim
theorem aAE (hF:fT P) {t t':TypeId} (ho:o.op= .call {callee:= .builtin .copy,args:= #[x,y],argTypes:= #[t,t']}) (hx:dI nt x=true) (hy:dI nt y=true) (hg:cE X nt Z a w) (h:(aG0 t (opd Z.t x) (opd Z.t y)).Run PC Z.s v s' r wr) :
  o.wp P a w (fun a' w'=>cE X nt ⟨eJ o.dst v Z.t,s'⟩ a' w') Q:=by
 obtain⟨hs,hd,J,N,D⟩:=id hg
 have hv:=D.opd hs hx
 have hvy:=D.opd hs hy
 have fin:∀(u:Value) (w':World),(Builtin.copy_ #[t,t'] o.type #[a.eval x,a.eval y]).run P w= .ok u w'->(execOp a.eval o).run P w= .ok (.value u) w':=by
  intro u w' hrun
  unfold execOp
  simp only[ho,resolve,invoke,builtin,Sem.run_bind,Sem.run_pure,Result.andThen_ok,lT,bR,iH,hrun]
 unfold aG0 at h
 split at h
 ·rename_i k id ver off n full ht he
  rw[he]at hv
  obtain⟨l2,s1,r1,w1,r2,w2,h1,h⟩:=cB h
  have hl63:=PX D hvy h1
  obtain⟨rfl,pa,c2,news,ey,R,W⟩:=HH D hvy h1
  obtain⟨blk,r',hb,rfl,h⟩:=fM h
  cases blk with
  | rowb I l1=>
   simp only at h
   split at h
   case h_2=>exact h.elim
   rename_i l hcl
   obtain⟨rfl,rfl⟩:=hU hcl
   obtain⟨w3,-,rfl,rfl,-,-⟩:=h
   have M:(l2.take n).length=Nat.min l2.length n:=by rw[aF];exact Nat.min_comm _ _
   have wfn:sD (.int .i64 ((l2.take n).length:Nat)):=(iS .i64 _).2 (by rw[aF];simp[loK,hiK];omega)
   have hsz:(sizeOf (mJ I)).run P w= .ok (size I) w:=by
    obtain⟨i,z,q1,q2,q3,_⟩:=hF.el I
    simp[sizeOf,typeInfo,q1,q3]
   have hld:∀m,m<=l2.length->(Builtin.firstCells (size I) m (.slice pa l2.length c2)).run P w= .ok (news.take (m*size I)).toArray w:=by
    intro m hm
    by_cases hne:l2=[]
    ·subst hne
     have hn0:news=[]:=aR (by simpa using R.1)
     have hm0:m=0:=by simpa using hm
     subst hm0 hn0
     cases pa with
     | none=>simp[Builtin.firstCells]
     | some p=>
      have:=run_loadCells_list (P:=P) w p [] (fun i u Y=>by simp at Y)
      simpa [Builtin.firstCells]using this
    ·obtain⟨b,off2,rfl,hcell⟩:=W hne
     have hm2:m*size I<=news.length:=by rw[R.1];exact bF _ hm
     have:=run_loadCells_list (P:=P) w ⟨b,off2,none⟩ (news.take (m*size I)) (fun i u Y=>by
      rw[nH]
      have hi:i<m*size I:=by have:=(iR.1 Y).1;simp at this;omega
      rw[aU,if_pos hi]at Y
      exact hcell i u Y)
     rw[aF,fQ hm2]at this
     exact this
   have run0:∀(pd:Option Addr) (cd m:Nat) (w':World),m=Nat.min l2.length n->(match pd with
     | some q=>(storeCells q (news.take (m*size I)))
     | none=>pure ()).run P w= .ok () w'->(Builtin.copy_ #[t,t'] o.type #[.slice pd n cd,a.eval y]).run P w= .ok (.int .i64 ((l2.take n).length:Nat)) w':=by
    intro pd cd m w' hm e
    rw[ey]
    have hld2:=hld (Nat.min l2.length n) (Nat.min_le_left _ _)
    subst hm
    simp only[Builtin.copy_,iT,jF,List.getElem?_cons_succ,Sem.run_bind,run_underlying (hF.sl t I ht),Result.andThen_ok,Builtin.lenOf,Sem.run_pure,hsz,hld2]
    cases pd with
    | none=>
     simp only[Sem.run_pure]at e
     cases e
     simp[M,goInt]
    | some q=>
     simp only at e
     simp[e,M,goInt]
   rcases aBC D hb hv with⟨e1,rfl,rfl,rfl⟩ |⟨b,c,o2,e1,e2,e3,e4,e5⟩
   ·rw[List.take_zero,KL,F6 hb]
    refine cK hs hd D (fin _ w ?_) ⟨rfl,by simpa using wfn⟩
    rw[e1]
    have:=run0 none 0 0 w (by simp) rfl
    simpa using this
   ·have hml:Nat.min l2.length n<=n:=Nat.min_le_right _ _
    have H:=R.take (Nat.min l2.length n) (Nat.min_le_left _ _)
    have htk:l2.take n=l2.take (Nat.min l2.length n):=by
     rw[show Nat.min l2.length n=min n l2.length from Nat.min_comm _ _,List.take_eq_take_min]
    obtain⟨cur,E,r1,r2,st1⟩:=TB D hb e1 (l2:=l2.take (Nat.min l2.length n)) (p:=off) (by rw[aF,fQ (Nat.min_le_left _ _)];omega) H
    rw[<-htk]at st1
    by_cases hn:n=0
    ·subst hn
     rw[List.take_zero,KL,F6 hb]
     refine cK hs hd D (fin _ w ?_) ⟨rfl,by simpa using wfn⟩
     rw[e2]
     have hq:=run0 (some ⟨b,o2,none⟩) c 0 w (by simp) (by simp[storeCells])
     simpa using hq
    ·refine jM (u:= .int .i64 ((l2.take n).length:Nat)) hs hd (fin _ _ ?_) st1 ⟨rfl,wfn⟩
     rw[e2,e5 hn]
     have e:=kG P b (off*size I) E (news.take (Nat.min l2.length n*size I)) 0 cur w r1 (by simpa using r2) (fun u Y=>H.one u Y)
     simp only[eY]at e
     exact run0 _ c _ _ rfl e
  | _=>exact h.elim
 ·exact h.elim
end
open Go.RowKit
def aIB:PV->Bool
 | .agg _=>false
 | .tup _=>false
 | .fn _ _=>false
 | .obj _=>false
 | .row true _ _=>false
 | _=>true
def LB (f:FuncId) (caps:List PV):eM PV:=match caps.all aIB with
 | true=> .ret (.fn f caps)
 | false=> .fail
def aG1 (fn:Fn) (first:List Operand) (caps:List PV):eM PV:=match fn,first with
 | .func f,[]=>LB f caps
 | _,_=> .fail
def KN:List PV->List Nat
 | []=> []
 | .agg cs::l=>uC cs++KN l
 | .ref id _ _ _ _::l=>id::KN l
 | _::l=>KN l
def aCC (o:Oper) (ρ:Operand->PV) (c:Call):eM PV:=match c.callee with
 | .value x=>match ρ x with
  | .fn f caps=>aB0 (KN (c.args.toList.map ρ)) (match aLA f with
   | some t=>aKU t (c.args.toList.map ρ++caps)
   | none=>match aLe f with
    | some x=>aKT x (c.args.toList.map ρ++caps)
    | none=>aCB aPx mvT lnT o f (c.args.toList.map ρ++caps) c.argTypes.toList)
  | _=> .fail
 | .builtin .len=>match c.args.toList,c.argTypes.toList with
  | [x],[t]=>aKR t (ρ x)
  | _,_=> .fail
 | .builtin .append=>match c.args.toList,c.argTypes.toList with
  | [x,y],[t,t']=>if t'=t then aB0 (KN [ρ x,ρ y]) (PK o t (ρ x) (ρ y))else .fail
  | _,_=> .fail
 | .builtin .min=>aIS false (c.args.toList.map ρ)
 | .builtin .max=>aIS true (c.args.toList.map ρ)
 | .builtin .clear=>match c.args.toList,c.argTypes.toList with
  | [x],[t]=>aCD t (ρ x)
  | _,_=> .fail
 | .builtin .copy=>match c.args.toList,c.argTypes.toList with
  | [x,y],[t,_]=>aG0 t (ρ x) (ρ y)
  | _,_=> .fail
 | _=> .fail
def aKj (o:Oper) (s d:TypeId) (x:PV):eM PV:=match cvT s d with
 | some .toBytes=>PU o s d x
 | some .toStr=>aCL s d x
 | some (.int _)=>aCE s d x
 | none=> .fail
def aG5 (o:Oper) (ρ:Operand->PV):eM PV:=match o.op with
 | .move x| .assign x=> .ret (ρ x)
 | .pick c x y=>aG2 (ρ c) (ρ x) (ρ y)
 | .alloc t=>aCx o t
 | .box _ x=>aKQ o (ρ x)
 | .build t parts=>aCA t (parts.toList.map fun x=>(x.1,ρ x.2))
 | .buildSlice t n parts=>aB0 (KN ((parts.toList.map fun x=>(x.1,ρ x.2)).map (·.2))) (BE o t n (parts.toList.map fun x=>(x.1,ρ x.2)))
 | .load t x=>aCI t (ρ x)
 | .store t x y=>aB0 (KN [ρ y]) (XV t (ρ x) (ρ y))
 | .nilCheck x=>aKS (ρ x)
 | .binOp op t x y _=>aGZ o x op t (ρ x) (ρ y)
 | .unOp op _ x=>eUn op (ρ x)
 | .convert s d x=>aKj o s d (ρ x)
 | .makeSlice t l c=>DY o t (ρ l) (ρ c)
 | .slice t x lo hi none=>aB0 (KN [ρ x]) (PS t (ρ x) (lo.map ρ) (hi.map ρ))
 | .fieldAddr t x i=>HB t i (ρ x)
 | .field t x i=>aCF t i (ρ x)
 | .indexAddr t x y=>HC t (ρ x) (ρ y)
 | .index t x y=>aCG t (ρ x) (ρ y)
 | .extract x i=>PN (ρ x) i
 | .makeFunc fn first caps=>aG1 fn first.toList (caps.toList.map ρ)
 | .makeMap _ none=>aAF o
 | .insert t x y z=>OB t (ρ x) (ρ y) (ρ z)
 | .mapUpdate t x y z=>OB t (ρ x) (ρ y) (ρ z)
 | .lookup t x y false=>XT t (ρ x) (ρ y)
 | .call c=>aCC o ρ c
 | _=> .fail
def eop (o:Oper) (t:Nat->PV):eM PV:=aG5 o (opd t)
def aBj (nt:Nat) (o:Oper):Bool:=o.op.operands.toList.all (dI nt)
theorem aCN (o:Oper) {ρ ρ':Operand->PV} (h:∀x∈o.op.operands,ρ' x=ρ x):aG5 o ρ'=aG5 o ρ:=by
 unfold aG5
 have I:∀(l:List (Nat×Operand)),(∀x∈l.map (·.2),ρ' x=ρ x)->(l.map fun x=>(x.1,ρ' x.2))=l.map fun x=>(x.1,ρ x.2):=by
  intro l W
  apply List.map_congr_left
  intro x D
  rw[W x.2 (List.mem_map.2 ⟨x,D,rfl⟩)]
 cases M:o.op<;>rw[M]at h<;>simp only[Op.operands]at h<;>try rfl
 case build t parts=>simp only;rw[I parts.toList (by simpa using h)]
 case buildSlice t n parts=>simp only;rw[I parts.toList (by simpa using h)]
 case slice t x lo hi mx=>
  cases mx with
  | some m=>rfl
  | none=>
   simp only
   rw[h x (by simp)]
   congr 2
   ·cases lo with
    | none=>rfl
    | some y=>simp only[fR];rw[h y (by simp)]
   ·cases hi with
    | none=>rfl
    | some y=>simp only[fR];rw[h y (by simp)]
 case makeFunc fn first caps=>
  simp only
  have I:caps.toList.map ρ'=caps.toList.map ρ:=List.map_congr_left fun x D=>h x (Array.mem_append.2 (.inr (Array.mem_toList_iff.1 D)))
  rw[I]
 case makeMap t hn=>
  cases hn<;>rfl
 case lookup t x y c=>
  cases c with
  | true=>rfl
  | false=>simp only;rw[h x (by simp),h y (by simp)]
 case call c=>
  simp only
  obtain⟨callee,args,ats⟩:=c
  have z:∀x∈args.toList,ρ' x=ρ x:=fun x D=>h x (by cases callee<;>simp[Call.operands,Array.mem_def,D])
  have H:args.toList.map ρ'=args.toList.map ρ:=List.map_congr_left z
  unfold aCC
  simp only[H]
  split<;>try rfl
  ·rename_i x
   rw[h x (by simp[Call.operands])]
  ·split
   ·rename_i x t e R
    rw[z x (by rw[e];simp)]
   ·rfl
  ·split
   ·rename_i x y t Y e R
    rw[z x (by rw[e];simp),z y (by rw[e];simp)]
   ·rfl
  ·split
   ·rename_i x t e R
    rw[z x (by rw[e];simp)]
   ·rfl
  ·split
   ·rename_i x y t Y e R
    rw[z x (by rw[e];simp),z y (by rw[e];simp)]
   ·rfl
 all_goals simp only;simp only[List.mem_toArray,Array.mem_def,dS,List.not_mem_nil,or_false,forall_eq_or_imp,forall_eq]at h;simp only[h]
theorem aE5 {ops:Array Oper}:aAg eop ops:=fun o t e h=>aCN o fun x z=>by
 cases x with
 | tmp d=>
  show e d=t d
  exact h d (bJ _ (List.mem_filterMap.2 ⟨.tmp d,by simpa using z,rfl⟩))
 | const v=>rfl
 | func f=>rfl
 | global g=>rfl
theorem NQ {a:Act} {w:World} {PC:rU} {v:PV} {s':cU} {r wr:List Nat} {Q:Exit->Act->World->Prop} {f:FuncId} {caps:Array Operand} (I:o.op= .makeFunc (.func f) #[] caps) (M:caps.toList.all (dI nt)=true) (R:cE X nt Z a w) (h:(LB f (caps.toList.map (opd Z.t))).Run PC Z.s v s' r wr) :
  o.wp P a w (fun W w'=>cE X nt ⟨eJ o.dst v Z.t,s'⟩ W w') Q:=by
 obtain⟨H,Y,J,N,e⟩:=id R
 unfold LB at h
 split at h
 case h_2=>exact h.elim
 rename_i hc
 obtain⟨rfl,rfl,-,-⟩:=h
 refine cK H Y e (u:= .func (.func f) #[] (caps.map a.eval)) ?_ ⟨caps.map a.eval,rfl,?_⟩
 ·unfold execOp
  simp[I,Instr.makeFunc]
 ·rw[Array.toList_map]
  have h2:bC (gM (Fz X w N Z.s) w J Z.s) (caps.toList.map (opd Z.t)) (caps.toList.map a.eval):=bC.map_args fun x z=>e.opd H (List.all_eq_true.1 M x z)
  have key:∀{ps:List PV} {us:List Value},ps.all aIB=true->bC (gM (Fz X w N Z.s) w J Z.s) ps us->bC (DB (Fz X w N Z.s) w J Z.s) ps us:=by
   intro ps
   induction ps with
   | nil=>intro us _ h;cases us with
    | nil=>trivial
    | cons _ _=>exact h.elim
   | cons p ps ih=>
    intro us D h
    cases us with
    | nil=>exact h.elim
    | cons u us=>
     rw[cI,aB]at D
     exact⟨by cases p<;>first|exact h.1|(exact absurd D.1 (by simp[aIB])),ih D.2 h.2⟩
  exact key hc h2
theorem aE6 (M:fT P) {G:Nat} {E:World->Prop} (hE:X.E=E) (hG:X.G=G) (H:aBj nt o=true):o5 P (hO P G E) eop X nt o:=by
 intro Z a w v s' r wr Q I h
 unfold eop aG5 at h
 unfold aBj at H
 cases D:o.op<;>simp only[D]at h<;>rw[D]at H<;>simp only[Op.operands]at H<;>try exact h.elim
 case move x=>exact M0 (.inl D) (by simpa using H) I h
 case assign x=>exact M0 (.inr D) (by simpa using H) I h
 case pick c x y=>
  simp only[cI,gL,aB,and_true]at H
  exact aAG D H.1 H.2.1 H.2.2 I h
 case alloc t=>exact XL M D I h
 case box t x=>exact aCz M D (by simpa using H) I h
 case build t parts=>exact XM M D (by simpa using H) I h
 case buildSlice t n parts=>
  obtain⟨s1,r1,w1,I,h⟩:=A5 I h
  exact HA (Z:=⟨Z.t,s1⟩) M D (by simpa using H) I h
 case load t x=>exact XS M D (by simpa using H) I h
 case store t x y=>
  simp only[cI,gL,aB,and_true]at H
  obtain⟨s1,r1,w1,I,h⟩:=A5 I h
  exact TW (Z:=⟨Z.t,s1⟩) M D H.1 H.2 I h
 case nilCheck x=>exact aCJ D (by simpa using H) I h
 case binOp op t x y t'=>
  simp only[cI,gL,aB,and_true]at H
  replace h:(aGZ o x op t (opd Z.t x) (opd Z.t y)).Run (hO P G E) Z.s v s' r wr:=h
  unfold aGZ at h
  split at h
  ·exact aAH D H.1 H.2 I h
  ·exact aCy M D H.1 H.2 I h
 case unOp op t x=>exact aE3 D (by simpa using H) I h
 case convert s d x=>
  unfold aKj at h
  split at h
  ·exact PW M D (by simpa using H) I h
  ·exact XX M D (by simpa using H) I h
  ·exact XP M D (by simpa using H) I h
  ·exact h.elim
 case makeSlice t l c=>
  simp only[cI,gL,aB,and_true]at H
  exact JA M D H.1 H.2 I h
 case slice t x lo hi mx=>
  cases mx with
  | some m=>exact h.elim
  | none=>
   have Y:=fun y hy=>List.all_eq_true.1 H y hy
   obtain⟨s1,r1,w1,I,h⟩:=A5 I h
   exact XU (Z:=⟨Z.t,s1⟩) M D (Y x (by simp)) (fun y e=>Y y (by simp[e])) (fun y e=>Y y (by simp[e])) I h
 case fieldAddr t x i=>exact K9 M D (by simpa using H) I h
 case field t x i=>exact XQ M D (by simpa using H) I h
 case indexAddr t x y=>
  simp only[cI,gL,aB,and_true]at H
  exact LA M D H.1 H.2 I h
 case index t x y=>
  simp only[cI,gL,aB,and_true]at H
  exact XR M D H.1 H.2 I h
 case extract x i=>exact PO D (by simpa using H) I h
 case makeFunc fn first caps=>
  unfold aG1 at h
  split at h
  ·rename_i f W
   obtain rfl:first= #[]:=by apply Array.ext';simpa using W
   exact NQ D (by simpa using H) I h
  ·exact h.elim
 case makeMap t hn=>
  cases hn with
  | none=>exact PQ D I h
  | some y=>exact h.elim
 case insert t x y z=>
  simp only[cI,gL,aB,and_true]at H
  exact GL M (.inl D) H.1 H.2.1 H.2.2 I h
 case mapUpdate t x y z=>
  simp only[cI,gL,aB,and_true]at H
  exact GL M (.inr D) H.1 H.2.1 H.2.2 I h
 case lookup t x y c=>
  cases c with
  | true=>exact h.elim
  | false=>
   simp only[cI,gL,aB,and_true]at H
   exact TV M D H.1 H.2 I h
 case call c=>
  obtain⟨callee,args,ats⟩:=c
  have ha:args.toList.all (dI nt)=true:=List.all_eq_true.2 fun y hy=>List.all_eq_true.1 H y (by cases callee<;>simp[Call.operands,hy])
  unfold aCC at h
  split at h
  ·rename_i x e
   simp only at e
   subst e
   have hxb:dI nt x=true:=List.all_eq_true.1 H x (by simp[Call.operands])
   split at h
   case h_2=>exact h.elim
   rename_i f caps hfn
   obtain⟨s1,r1,w1,I,h⟩:=A5 I h
   have hfv:∃uc:Array Value,a.eval x= .func (.func f) #[] uc/\∀J N,St X ⟨Z.t,s1⟩ w a.tmps J N->bC (DB (Fz X w N s1) w J s1) caps uc.toList:=by
    obtain⟨hs,hd,J,N,hst⟩:=id I
    have hv:=hst.opd hs hxb
    rw[hfn]at hv
    obtain⟨uc,W,_⟩:=hv
    refine⟨uc,W,fun J' N' hst'=> ?_⟩
    have hv':=hst'.opd hs hxb
    rw[hfn]at hv'
    obtain⟨uc',R,e3⟩:=hv'
    rw[W]at R
    injection R with _ _ R
    rw[R];exact e3
   obtain⟨uc,hev,hcv⟩:=hfv
   have R:(args.toList.map a.eval++uc.toList).toArray=args.map a.eval++uc:=by apply Array.ext';simp
   have hex:(execOp a.eval o).run P w=(callFunc f (args.toList.map a.eval++uc.toList).toArray).run P w:=by
    rw[R]
    unfold execOp
    simp[D,resolve,Deferred.ofValue,invoke,hev]
   have hps:∀J N,St X ⟨Z.t,s1⟩ w a.tmps J N->bC (gM (Fz X w N s1) w J s1) (args.toList.map (opd Z.t)++caps) (args.toList.map a.eval++uc.toList):=fun J N hst=>bC.app (bC.map_args fun x hxm=>hst.opd I.1 (List.all_eq_true.1 ha x hxm)) ((hcv J N hst).mono fun p u hv=>by cases p<;>first|exact hv|exact hv.elim)
   split at h
   ·rename_i t ht
    exact aCM (Z:=⟨Z.t,s1⟩) M ht hex I hps h
   ·split at h
    ·rename_i x hx
     exact aCK (Z:=⟨Z.t,s1⟩) M hx hex I hps h
    ·exact XN (Z:=⟨Z.t,s1⟩) hE hG hex I hps h
  ·rename_i e
   simp only at e
   subst e
   split at h
   ·rename_i x t W R
    simp only at W R
    obtain rfl:args= #[x]:=by apply Array.ext';simpa using W
    obtain rfl:ats= #[t]:=by apply Array.ext';simpa using R
    exact aCH M D (by simpa using ha) I h
   ·exact h.elim
  ·rename_i e
   simp only at e
   subst e
   split at h
   ·rename_i x y t t' W R
    simp only at W R
    split at h
    ·rename_i e3
     subst e3
     obtain rfl:args= #[x,y]:=by apply Array.ext';simpa using W
     obtain rfl:ats= #[t',t']:=by apply Array.ext';simpa using R
     simp only[cI,gL,aB,and_true]at ha
     obtain⟨s1,r1,w1,I,h⟩:=A5 I h
     exact PM (Z:=⟨Z.t,s1⟩) M D ha.1 ha.2 I h
    ·exact h.elim
   ·exact h.elim
  ·rename_i e
   simp only at e
   subst e
   exact PR (b:=false) D ha I h
  ·rename_i e
   simp only at e
   subst e
   exact PR (b:=true) D ha I h
  ·rename_i e
   simp only at e
   subst e
   split at h
   ·rename_i x t W R
    simp only at W R
    obtain rfl:args= #[x]:=by apply Array.ext';simpa using W
    obtain rfl:ats= #[t]:=by apply Array.ext';simpa using R
    exact XO M D (by simpa using ha) I h
   ·exact h.elim
  ·rename_i e
   simp only at e
   subst e
   split at h
   ·rename_i x y t t' W R
    simp only at W R
    obtain rfl:args= #[x,y]:=by apply Array.ext';simpa using W
    obtain rfl:ats= #[t,t']:=by apply Array.ext';simpa using R
    simp only[cI,gL,aB,and_true]at ha
    exact aAE M D ha.1 ha.2 I h
   ·exact h.elim
  ·exact h.elim
open Go.RowKit
def KU (P:Program) (t:TypeId):Option (Array Field):=match P.underlying t with
 | some (.struct fs)=>some fs
 | _=>none
theorem KV {t:TypeId} {fs:Array Field} (h:KU P t=some fs):P.underlying t=some (.struct fs):=by
 unfold KU at h
 split at h
 ·rename_i e;cases h;exact e
 ·cases h
def szB (P:Program) (t:TypeId) (n:Nat):Bool:=match P.info? t with
 | some i=>i.size==n
 | none=>false
theorem KW {t:TypeId} (h:szB P t n=true):(P.info? t).map (·.size)=some n:=by
 unfold szB at h
 split at h
 ·rename_i i e;rw[e];simpa using h
 ·cases h
def slB (P:Program) (t e:TypeId):Bool:=match P.underlying t with
 | some (.slice e')=>e'==e
 | _=>false
theorem S6 {t e:TypeId} (h:slB P t e=true):P.underlying t=some (.slice e):=by
 unfold slB at h
 split at h
 ·rename_i D z;rw[z];simp at h;rw[h]
 ·cases h
def aJy (P:Program) (t:TypeId):Bool:=match P.underlying t with
 | some .string=>true
 | _=>false
theorem WU {t:TypeId} (h:aJy P t=true):P.underlying t=some .string:=by
 unfold aJy at h
 split at h
 ·rename_i e;exact e
 ·cases h
def aGj (P:Program) (t:TypeId):Bool:=match P.underlying t with
 | some .bool=>true
 | _=>false
theorem aCo {t:TypeId} (h:aGj P t=true):P.underlying t=some .bool:=by
 unfold aGj at h
 split at h
 ·rename_i e;exact e
 ·cases h
def aHs (P:Program) (t:TypeId) (k:IntKind):Bool:=match P.underlying t with
 | some (.int k')=>k'==k
 | _=>false
theorem LK {t:TypeId} {k:IntKind} (h:aHs P t k=true):P.underlying t=some (.int k):=by
 unfold aHs at h
 split at h
 ·rename_i k' e;rw[e];simp at h;rw[h]
 ·cases h
def aH3:Value->Value->Bool
 | .int k n,.int k' n'=>k==k'&&n==n'
 | .string a,.string b=>a.data.toList==b.data.toList
 | .bool a,.bool b=>a==b
 | .pointer none,.pointer none=>true
 | .nilFunc,.nilFunc=>true
 | _,_=>false
theorem aDG {v:Value} (h:aH3 u v=true):u=v:=by
 unfold aH3 at h
 split at h<;>simp_all
 rename_i a b
 exact ByteArray.ext h
def aDO:d4->Value->Bool
 | .sc q,u=>aH3 u q&&wfB q
 | .nest _ l,.slice none 0 0=>l.isEmpty
 | _,_=>false
theorem aB9 {lf:d4} (h:aDO lf u=true):aDR lf u:=by
 unfold aDO at h
 split at h
 ·simp only[aB]at h;exact⟨aDG h.1,aB4 h.2⟩
 ·exact⟨rfl,by simpa using h⟩
 ·cases h
def MP:List d4->List Value->Bool
 | [],[]=>true
 | a::as,b::bs=>aDO a b&&MP as bs
 | _,_=>false
theorem NM:∀{zs:List d4} {us:List Value},MP zs us=true->us.length=zs.length/\∀(j:Nat) lf,zs[j]?=some lf->∃u,us[j]?=some u/\aDR lf u
 | [],[],_=>⟨rfl,fun j lf h=>by simp at h⟩
 | a::as,b::bs,h=>by
  simp only[MP,aB]at h
  obtain⟨z,D⟩:=NM h.2
  refine⟨by simp[z],fun j lf e=> ?_⟩
  cases j with
  | zero=>cases e;exact⟨b,rfl,aB9 h.1⟩
  | succ j=>exact D j lf e
 | [],_::_,h=>by cases h
 | _::_,[],h=>by cases h
theorem aB8 {zs:List d4} {z:Value} (h:MP zs z.cells.toList=true):OX zs z.cells:=by
 obtain⟨e,D⟩:=NM h
 exact⟨by simpa using e,fun j lf H=>by simpa using D j lf H⟩
def aB7 (P:Program) (t:TypeId) (zs:List d4):Bool:=match P.info? t with
 | some i=>match i.zero with
  | some z=>MP zs z.cells.toList
  | none=>false
 | none=>false
theorem TN {t:TypeId} {zs:List d4} (h:aB7 P t zs=true):∃i z,P.info? t=some i/\i.zero=some z/\OX zs z.cells:=by
 unfold aB7 at h
 split at h
 ·split at h
  ·rename_i i e _ z D;exact⟨i,z,e,D,aB8 h⟩
  ·cases h
 ·cases h
def elB (P:Program) (k:K):Bool:=match P.info? (mJ k)with
 | some i=>match i.zero with
  | some z=>i.size==size k&&(i.bytes==byt k&&MP (aG (zK k)) z.cells.toList)
  | none=>false
 | none=>false
def aDS (P:Program) (t:TypeId):Option Bool:=match P.underlying t with
 | some (.struct _)|some (.array _ _)=>some true
 | some _=>some false
 | none=>none
theorem OY {t:TypeId} {b:Bool} (h:aDS P t=some b) (w:World):(isAgg t).run P w= .ok b w:=by
 unfold aDS at h
 unfold isAgg
 split at h
 ·rename_i fs e;cases h;simp[run_underlying e]
 ·rename_i n e0 e;cases h;simp[run_underlying e]
 ·rename_i d z D e
  cases h
  simp only[Sem.run_bind,run_underlying e,Result.andThen_ok]
  cases d<;>first|simp|exact absurd e (z _)|exact absurd e (D _ _)
 ·cases h
def aEb (P:Program) (f:Field) (x:Nat×Bool×Nat):Bool:=x.2.2 !=0&&(f.offset==x.1&&(aDS P f.type==some x.2.1&&(szB P f.type x.2.2&&(x.2.1||x.2.2==1))))
def P6 (P:Program):List Field->List (Nat×Bool×Nat)->Bool
 | [],[]=>true
 | f::fs,x::xs=>aEb P f x&&P6 P fs xs
 | _,_=>false
theorem P7 {P:Program}:∀{fs:List Field} {xs:List (Nat×Bool×Nat)},P6 P fs xs=true->∀(i:Nat) x,xs[i]?=some x->∃f,fs[i]?=some f/\aEb P f x=true
 | [],[],_,i,x,e=>by simp at e
 | f::fs,y::xs,h,i,x,e=>by
  simp only[P6,aB]at h
  cases i with
  | zero=>cases e;exact⟨f,rfl,h.1⟩
  | succ i=>exact P7 h.2 i x e
 | [],_::_,h,_,_,_=>by cases h
 | _::_,[],h,_,_,_=>by cases h
theorem JD {P:Program}:∀{fs:List Field} {xs:List (Nat×Bool×Nat)},P6 P fs xs=true->fs.mapM (fun f=>(P.info? f.type).map fun i=>(f.offset,i.size))=some (xs.map fun x=>(x.1,x.2.2))
 | [],[],_=>rfl
 | f::fs,y::xs,h=>by
  simp only[P6,aB]at h
  obtain⟨e,H⟩:=h
  unfold aEb at e
  simp only[aB,fX]at e
  obtain⟨_,I,_,M,_⟩:=e
  have D:=KW M
  cases z:P.info? f.type with
  | none=>simp[z]at D
  | some i=>
   have R:i.size=y.2.2:=by simpa [z]using D
   simp[List.mapM_cons,z,JD H,I,R]
 | [],_::_,h=>by cases h
 | _::_,[],h=>by cases h
def aIb (P:Program) (t:TypeId) (xs:List (Nat×Bool×Nat)):Bool:=match KU P t with
 | some fs=>P6 P fs.toList xs&&(match W6 t with|some zs=>aB7 P t zs|none=>false)
 | none=>false
def aIQ (P:Program) (s t:TypeId):Cv->Bool
 | .int k=>(P.underlying s).isSome&&aHs P t k
 | .toBytes=>(P.underlying s).isSome&&(slB P t (mJ .u8)&&aHs P (mJ .u8) .u8)
 | .toStr=>slB P s (mJ .u8)&&(aJy P t&&aHs P (mJ .u8) .u8)
def aK5 (P:Program) (t:TypeId) (m:MK) (z:Value):Bool:=match P.underlying t with
 | some (.map kt et)=>(match P.underlying kt,m with
   | some .string,.s=>true
   | some (.int .i64),.i=>true
   | some .bool,.b=>true
   | _,_=>false)&&(match P.info? et,z with
   | some i,.int .i64 n=>(match i.zero with|some (.int .i64 n')=>n==0&&n'==0|_=>false)
   | some i,.string s=>(match i.zero with|some (.string s')=>s.size==0&&s'.size==0|_=>false)
   | some i,.bool b=>(match i.zero with|some (.bool b')=>b==false&&b'==false|_=>false)
   | _,_=>false)
 | _=>false
theorem aAl {s:ByteArray} (h:s.size=0):s=ByteArray.empty:=by
 apply ByteArray.ext
 exact Array.eq_empty_of_size_eq_zero h
theorem aFm {t:TypeId} {m:MK} {z:Value} (h:aK5 P t m z=true):sD z/\∃kt et,P.underlying t=some (.map kt et)/\P.underlying kt=some m.td/\∀w,(zeroValue et).run P w= .ok z w:=by
 unfold aK5 at h
 split at h
 case h_2=>cases h
 rename_i kt et e
 simp only[aB]at h
 obtain⟨R,D⟩:=h
 have Y:P.underlying kt=some m.td:=by
  split at R
  ·rename_i H;rw[H];rfl
  ·rename_i H;rw[H];rfl
  ·rename_i H;rw[H];rfl
  ·cases R
 have key:sD z/\∀w,(zeroValue et).run P w= .ok z w:=by
  split at D
  ·rename_i i n I
   split at D
   ·rename_i n' M
    simp only[aB,fX]at D
    obtain⟨rfl,rfl⟩:=D
    exact⟨rfl,fun w=>by simp[zeroValue,typeInfo,I,M]⟩
   ·cases D
  ·rename_i i s I
   split at D
   ·rename_i s' M
    simp only[aB,fX]at D
    obtain⟨W,h4⟩:=D
    have:=aAl W
    have:=aAl h4
    subst_vars
    exact⟨by show _<=_;rw[W];omega,fun w=>by simp[zeroValue,typeInfo,I,M]⟩
   ·cases D
  ·rename_i i b I
   split at D
   ·rename_i b' M
    simp only[aB,fX]at D
    obtain⟨rfl,rfl⟩:=D
    exact⟨trivial,fun w=>by simp[zeroValue,typeInfo,I,M]⟩
   ·cases D
  ·cases D
 exact⟨key.1,kt,et,e,Y,key.2⟩
def aHj (P:Program):Bool:=
 tyL.all (fun x=>match x.2 with|(true,n)=>(KU P x.1).isSome&&(szB P x.1 n&&(jU x.1 aFb).isSome)|(false,n)=>n==1&&(aDS P x.1==some false&&szB P x.1 1)) &&
 (slL.all (fun x=>slB P x.1 (mJ x.2))&&(aLM.all (elB P)&&(aFb.all (fun x=>aIb P x.1 x.2)&&(aMF.all (aJy P)&&(aKg.all (aGj P)&&(aIH.all (fun x=>aB7 P x.1 x.2)&&(cvL.all (fun x=>aIQ P x.1 x.2.1 x.2.2)&&aMv.all (fun x=>aK5 P x.1 x.2.1 x.2.2))))))))
theorem aAT {t:TypeId} {x:Nat×Bool×Nat} (h:X5 t i=some x):∃l,(t,l)∈aFb/\jU t aFb=some l/\l[i]?=some x:=by
 unfold X5 at h
 split at h
 ·rename_i l e;exact⟨l,iQ e,e,h⟩
 ·cases h
theorem fT.of (hw:aGb P) (hs:aGa P) (h:aHj P=true):fT P:=by
 unfold aHj at h
 simp only[aB,List.all_eq_true]at h
 obtain⟨H,hsl,hel,hfl,W,I,hz,M,hmp⟩:=h
 have strct:∀{t:TypeId} {l:List (Nat×Bool×Nat)},(t,l)∈aFb->∃fs,P.underlying t=some (.struct fs)/\P6 P fs.toList l=true/\∃zs,W6 t=some zs/\aB7 P t zs=true:=by
  intro t l hm
  have:=hfl _ hm
  unfold aIb at this
  split at this
  ·rename_i fs e
   simp only[aB]at this
   refine⟨fs,KV e,this.1,?_⟩
   have R:=this.2
   split at R
   ·rename_i zs ez;exact⟨zs,ez,R⟩
   ·cases R
  ·cases this
 refine⟨fun t n D=> ?_,fun t k D=>S6 (hsl _ (iQ D)),fun k=> ?_,fun t i off ag n hf=> ?_,fun t D=>WU (W t (by simpa [QD]using D)),fun t D=>aCo (I t (by simpa [YA]using D)),fun s t k Y=> ?_,fun t zs D=>TN (hz _ (iQ D)),fun t n D=> ?_,fun s t Y=> ?_,fun s t Y=> ?_,fun t m z D=>aFm (hmp _ (iQ D)),fun t n D=> ?_,hw,hs⟩
 ·have:=H _ (iQ D)
  simp only[aB]at this
  cases hs:KU P t with
  | none=>rw[hs]at this;simp at this
  | some fs=>exact⟨⟨fs,KV hs⟩,KW this.2.1⟩
 ·have:=hel k (aHC k)
  unfold elB at this
  split at this
  ·split at this
   ·rename_i i e _ z e2
    simp only[aB,fX]at this
    have hzc:=aB8 this.2.2
    exact⟨i,z,e,e2,this.1,this.2.1,by rw[hzc.1,cP],hzc⟩
   ·cases this
  ·cases this
 ·obtain⟨l,hm,_,hx⟩:=aAT hf
  obtain⟨fs,h1,R,_⟩:=strct hm
  obtain⟨f,h3,h4⟩:=P7 R i _ hx
  unfold aEb at h4
  simp only[aB,fX,bne_iff_ne,ne_eq,eZ]at h4
  obtain⟨g1,g2,g3,g4,g5⟩:=h4
  exact⟨g1,fs,f,h1,by simpa using h3,g2,OY g3,KW g4,fun e=>by subst e;simpa using g5⟩
 ·have:=M _ (FF Y)
  simp only[aIQ,aB]at this
  exact⟨Option.isSome_iff_exists.1 this.1,LK this.2⟩
 ·have:=H _ (iQ D)
  simp only[aB]at this
  obtain⟨l,hl⟩:=Option.isSome_iff_exists.1 this.2.2
  obtain⟨fs,h1,R,zs,h3,h4⟩:=strct (iQ hl)
  obtain⟨it,z,h5,h6,h7⟩:=TN h4
  refine⟨it,fs,z,_,zs,h3,h5,h1,h6,h7,JD R,fun i off ag n hf=> ?_⟩
  obtain⟨l',_,hl',hx⟩:=aAT hf
  rw[hl]at hl';cases hl'
  rw[bX,hx];rfl
 ·have:=M _ (FF Y)
  simp only[aIQ,aB]at this
  exact⟨Option.isSome_iff_exists.1 this.1,S6 this.2.1,LK this.2.2⟩
 ·have:=M _ (FF Y)
  simp only[aIQ,aB]at this
  exact⟨S6 this.1,WU this.2.1,LK this.2.2⟩
 ·have:=H _ (iQ D)
  simp only[aB,fX]at this
  exact⟨this.1,OY this.2.1,KW this.2.2⟩
open Go.RowKit
def aKO (nt:Nat) (o:Oper):Bool:=match o.dst with
 | some d=>d<nt
 | none=>true
def aFs (nt:Nat) (l:List Oper):Bool:=l.all fun o=>aBj nt o&&aKO nt o
section
variable {P:Program} {X:mM} {nt:Nat} {Q:Exit->gU->Prop} {Z:gU} {G:Nat} {E:World->Prop}
theorem HO (D:fT P) (H:X.E=E) (I:X.G=G) {l:List Oper} (M:aFs nt l=true):(∀o∈l,o5 P (hO P G E) eop X nt o)/\∀o∈l,∀d,o.dst=some d->d<nt:=by
 have h:=List.all_eq_true.1 M
 refine⟨fun o e=> ?_,fun o e d R=> ?_⟩
 ·have:=h o e
  simp only[aB]at this
  exact aE6 D H I this.1
 ·have:=h o e
  simp only[aB]at this
  have z:=this.2
  unfold aKO at z
  rw[R]at z
  simpa using z
theorem XW.reg {id:Nat} {l:List Oper} (z:fT P) (D:X.E=E) (H:X.G=G) (I:aFs nt l=true) (h:∃ft Z',vS (hO P G E) eop l.toArray ft Z Z'/\ft.map (·.1)=List.range' 0 l.length/\Q .normal Z'):XW P X nt (.region id l.toArray false) Z Q:=
 let e:=HO z D H I
 XW.region e.1 e.2 h
theorem XW.drw {id:Nat} {l:List Oper} (z:fT P) (D:X.E=E) (H:X.G=G) (I:P.follows .mixedOrders=true) (M:aFs nt l=true) (h:∃ft Z',vS (hO P G E) eop l.toArray ft Z Z'/\ft.map (·.1)=List.range' 0 l.length/\BI l.toArray ft=true/\Q .normal Z'):XW P X nt (.region id l.toArray true) Z Q:=
 let e:=HO z D H M
 XW.draw I aE5 e.1 e.2 h
end
open Go.RowKit
section
variable {P:Program} {X:mM} {nt:Nat} {Q:Exit->gU->Prop} {Z:gU} {c:Code} {a:Act} {w:World}
def Gh (X:mM) (nt:Nat) (Z Z2:gU):Prop:=∀a w,cE X nt Z a w->cE X nt Z2 a w
theorem XW.gh {Z2:gU} (h:Gh X nt Z Z2) (e:XW P X nt c Z2 Q):XW P X nt c Z Q:=fun a w z=>e a w (h a w z)
end
open Go.RowKit
section
variable {P:Program} {PC:rU} {eop:Oper->(Nat->PV)->eM PV} {X:mM} {nt:Nat} {Q:Exit->gU->Prop} {Z:gU}
theorem aDN {ops:Array Oper} {Q0:Exit->Act->World->Prop} {rest:List Nat} (e:∀(i:Nat) (o:Oper),ops[i]?=some o->o5 P PC eop X nt o) (R:∀(i:Nat) (I:Oper),ops[i]?=some I->∀d,I.dst=some d->d<nt) :
  ∀{l:List Ft} {Z Z2:gU} (_:vS PC eop ops l Z Z2) (_:∀a w,cE X nt Z2 a w->wpOps P ops Q0 rest a w) (a:Act) (w:World),cE X nt Z a w->wpOps P ops Q0 (l.map (·.1)++rest) a w:=by
 intro l Z Z2 h
 induction h with
 | nil=>intro z a w D;exact z a w D
 | cons M W ht ih=>
  intro z a w D
  show wpOps P ops Q0 (_::_) a w
  rw[wpOps_cons]
  exact C3.wpOp M (e _ _ M) R W D fun Y w' H=>ih z Y w' H
theorem aFn (z:fT P) {t:TypeId} (h:F3 t=some k) (p:Option Addr) (n c:Nat) (w:World):(binOp .eql t (.slice p n c) (.slice none 0 0)).run P w= .ok (.bool p.isNone) w:=by
 have D:=z.sl t k h
 have e:(Op.equal t (.slice p n c) (.slice none 0 0)).run P w= .ok p.isNone w:=by
  show(Op.equalIn (9999+1) t _ _).run P w=_
  unfold Op.equalIn
  cases p<;>simp[run_underlying D]
 simp[binOp,e]
theorem XW.regionN (hF:fT P) {id:Nat} {l:List Oper} {t t':TypeId} (hop:∀z∈l++ [o],o5 P PC eop X nt z) (hd:∀z∈l++ [o],∀d,z.dst=some d->d<nt) (I:o.op= .binOp .eql t x (.const (.slice none 0 0)) t') (hgu:o.guard=none) (M:o.dst=some d) (hx:dI nt x=true) (hk:F3 t=some k)
  (h:∃ft Z',vS PC eop (l++ [o]).toArray ft Z Z'/\ft.map (·.1)=List.range' 0 l.length/\∀(S:Nat->Prop) (w:World) J σ u,gM S w J σ (opd Z'.t x) u->∃p n c,u= .slice p n c/\Q .normal ⟨eJ (some d) (.v (.bool p.isNone)) Z'.t,Z'.s⟩):XW P X nt (.region id (l++ [o]).toArray false) Z Q:=fun a w hg=>by
 obtain⟨ft,Z',h1,h2,h3⟩:=h
 refine wp_region ?_
 have R:∀(i:Nat) (z:Oper),(l++ [o]).toArray[i]?=some z->o5 P PC eop X nt z:=fun i z I=>hop z (tF (by simpa using I))
 have W:∀(i:Nat) (z:Oper),(l++ [o]).toArray[i]?=some z->∀d,z.dst=some d->d<nt:=fun i z I=>hd z (tF (by simpa using I))
 have:=aDN (Q0:=fun e H w'=>∃Z',cE X nt Z' H w'/\Q e Z') (rest:=[l.length]) R W h1 (fun a w hg=>by
  rw[wpOps_cons]
  have hi:(l++ [o]).toArray[l.length]?=some o:=by simp
  have hg0:=hg
  obtain⟨hs,hdd,J,N,Y⟩:=hg0
  have hv:=Y.opd hs hx
  obtain⟨p,n,c,hu,hq⟩:=h3 _ _ _ _ _ hv
  unfold Go.wpOp
  simp only[hi]
  have hw:jE (l++ [o]).toArray o Z'.t=some true:=by unfold jE;rw[hgu]
  rw[hg.wanted W hw]
  simp only[if_true]
  refine .inl ?_
  have D:o.wp P a w (fun H w'=>cE X nt ⟨eJ o.dst (.v (.bool p.isNone)) Z'.t,Z'.s⟩ H w') (fun e H w'=>∃Z',cE X nt Z' H w'/\Q e Z'):=by
   refine cK hs hdd Y (u:= .bool p.isNone) ?_ ⟨rfl,trivial⟩
   have hgd:(eqGuard .eql t x (.const (.slice none 0 0)) (.slice p n c) (.slice none 0 0)).run P w= .ok () w:=rfl
   unfold execOp
   have hq':a.eval (.const (.slice none 0 0))= .slice none 0 0:=rfl
   simp only[I,hu,hq',Sem.run_bind,hgd,Result.andThen_ok,aFn hF hk]
   rfl
  refine Oper.wp_mono ?_ D
  intro H w' hg'
  rw[M]at hg'
  exact⟨_,hg',hq⟩) a w hg
 rw[h2]at this
 rw[List.range_eq_range']
 have e:List.range' 0 (l++ [o]).toArray.size=List.range' 0 l.length++ [l.length]:=by
  simp[List.range'_concat]
 rw[e]
 exact this
end
open Go.RowKit
abbrev Rn:=Nat->Option (Option Nat)
inductive I0 (ρ:Rn) (σ σ':cU):PV->PV->Prop
 | dead (p:PV):I0 ρ σ σ' p .dead
 | v (x:Value) (lf:d4) (h:sD x->lf= .sc x):I0 ρ σ σ' (.v x) (qK lf)
 | un:I0 ρ σ σ' .un .un
 | nil:I0 ρ σ σ' .nil .nil
 | row (k:K) (l:List (ty k)):I0 ρ σ σ' (.row false k l) (.row false k l)
 | eptr (k:K) (l:List (ty k)) (i j:Nat):I0 ρ σ σ' (.eptr k l i j) (.eptr k l i j)
 | fn (f:FuncId):I0 ρ σ σ' (.fn f []) (.fn f [])
 | nilRow (k:K):I0 ρ σ σ' .nil (.row false k [])
 | let_ {id ver off n:Nat} {full:Bool} {blk:oE} {k:K} {l:List (ty k)} (h:σ id=⟨ver,some blk⟩) (hw:l3 blk k l) (hn:∀i,ρ i≠some (some id)):I0 ρ σ σ' (.ref id ver off n full) (.row false k ((l.drop off).take n))
 | letF {id ver off n:Nat} {blk:oE} {k:K} {l:List (ty k)} (h:σ id=⟨ver,some blk⟩) (hw:l3 blk k l) (hn:∀i,ρ i≠some (some id)):I0 ρ σ σ' (.ref id ver off n true) (.row false k l)
 | refF {id id' ver off n:Nat} {blk:oE} {k:K} {l:List (ty k)} (h:σ id=⟨ver,some blk⟩) (hw:l3 blk k l) (hr:ρ id'=some (some id)) (h':σ' id'=⟨0,some blk⟩):I0 ρ σ σ' (.ref id ver off n true) (.ref id' 0 0 l.length true)
 | refV {id id' ver off n:Nat} {full:Bool} {blk:oE} {k:K} {l:List (ty k)} (h:σ id=⟨ver,some blk⟩) (hw:l3 blk k l) (hr:ρ id'=some (some id)) (h':σ' id'=⟨0,some blk⟩):I0 ρ σ σ' (.ref id ver off n full) (.ref id' 0 off n false)
 | nilRef {id':Nat} {blk:oE} {k:K} (hw:l3 blk k []) (hr:ρ id'=some none) (h':σ' id'=⟨0,some blk⟩):I0 ρ σ σ' .nil (.ref id' 0 0 0 true)
 | ptrb {id id' ver i j:Nat} {cs cs':List PV} (h:σ id=⟨ver,some (.box cs)⟩) (hr:ρ id'=some (some id)) (h':σ' id'=⟨0,some (.box cs')⟩):I0 ρ σ σ' (.ptr id ver i j) (.ptr id' 0 i j)
 | ptrr {id id' ver i j:Nat} {blk:oE} {k:K} {l:List (ty k)} (h:σ id=⟨ver,some blk⟩) (hw:l3 blk k l) (hr:ρ id'=some (some id)) (h':σ' id'=⟨0,some blk⟩):I0 ρ σ σ' (.ptr id ver i j) (.ptr id' 0 i j)
 | ptro {id id' ver i j:Nat} {o:Obj} (h:σ id=⟨ver,some (.objb o)⟩) (hr:ρ id'=some (some id)) (h':σ' id'=⟨0,some (.objb o)⟩):I0 ρ σ σ' (.ptr id ver i j) (.ptr id' 0 i j)
def aKk:PV->Bool
 | .ptr _ _ _ _=>true
 | _=>false
def SlP (ρ:Rn) (σ σ':cU) (p q:PV):Prop:=I0 ρ σ σ' p q/\aKk p=true/\aKk q=true
def SlB (ρ:Rn) (σ σ':cU) (p q:PV):Prop:=I0 ρ σ σ' p q∨∃f cs ds,p= .fn f cs/\q= .fn f ds/\bC (SlP ρ σ σ') cs ds
def Sl1 (ρ:Rn) (σ σ':cU) (p q:PV):Prop:=SlB ρ σ σ' p q∨∃cs ds,p= .agg cs/\q= .agg ds/\bC (I0 ρ σ σ') cs ds
def SlC (ρ:Rn) (σ σ':cU) (p q:PV):Prop:=Sl1 ρ σ σ' p q∨(∃cs ds,p= .tup cs/\q= .tup ds/\bC (Sl1 ρ σ σ') cs ds)∨∃f cs ds,p= .fn f cs/\q= .fn f ds/\bC (SlP ρ σ σ') cs ds
inductive BlR (ρ:Rn) (σ σ':cU):oE->oE->Prop
 | box {cs ds:List PV} (h:bC (SlB ρ σ σ') cs ds):BlR ρ σ σ' (.box cs) (.box ds)
 | obj {o:Obj}:BlR ρ σ σ' (.objb o) (.objb o)
 | row {blk:oE} {k:K} {l:List (ty k)} (hw:l3 blk k l):BlR ρ σ σ' blk blk
structure Nrm (nx nl:Nat) (ρ:Rn) (Z Z':gU):Prop where
 t:∀i,SlC ρ Z.s Z'.s (Z.t i) (Z'.t i)
 b:∀id v b,Z'.s id=⟨v,some b⟩->v=0/\((∃id0 v0 b0,ρ id=some (some id0)/\Z.s id0=⟨v0,some b0⟩/\BlR ρ Z.s Z'.s b0 b)∨(ρ id=some none/\∃k,l3 b k []))
 inj:∀i j id,ρ i=some (some id)->ρ j=some (some id)->i=j
 ext:∀j,j<nx->ρ j=some (some j)/\∃cs,(Z'.s j).blk=some (.box cs)
 lnt:∀q,q<nl->ρ (50+q)=some (some (50+q))/\∃b,(Z'.s (50+q)).blk=some b
 big:∀i id,ρ i=some (some id)->i≠id->nx<=i/\nx<=id
section
variable {X:mM} {nt:Nat} {Z Z':gU} {w:World} {J:Nat->Option (Nat×Nat)} {N:Nat->List Nat} {tm:Array Value} {ρ:Rn}
def ZW (ρ:Rn) (J:Nat->Option (Nat×Nat)):Nat->Option (Nat×Nat):=fun id=>match ρ id with
 | some (some id0)=>J id0
 | _=>none
def DG (ρ:Rn) (N:Nat->List Nat):Nat->List Nat:=fun id=>match ρ id with
 | some (some id0)=>N id0
 | _=> []
theorem aEc {blk:oE} {l:List (ty k)} {id:Nat} (D:St X Z w tm J N) (h:Z.s id=⟨ver,some blk⟩) (H:l3 blk k l) (R:oF w J Z.s id ver off n true u):(l=[]/\n=0/\u= .slice none 0 0/\J id=none)∨(off=0/\n=l.length):=by
 obtain⟨_,_,W⟩:=R
 obtain⟨I,z⟩:=W _ k l h H.row
 rcases z with⟨z,M⟩ |⟨b,c,o,z,M,h7,h8,Y⟩
 ·rcases uD H.row (D.blk id _ (by rw[h]))with⟨_,e,_⟩ |⟨b,cap,cur,q,_⟩
  ·subst e;simp at I;exact .inl ⟨rfl,I.2,M,z⟩
  ·rw[z]at q;cases q
 ·obtain⟨e1,e2,_⟩:=Y rfl;exact .inr ⟨e1,e2⟩
theorem I0.val (hst:St X Z w tm J N) (hS:∀b,Fz X w N Z.s b->Fz X w (DG ρ N) Z'.s b)
  (hlet:∀id ver blk k l,Z.s id=⟨ver,some blk⟩->l3 blk k l->(∀i,ρ i≠some (some id))->∀b∈N id,Fz X w (DG ρ N) Z'.s b) {p q:PV} (h:I0 ρ Z.s Z'.s p q) {u:Value} (z:e9 (Fz X w N Z.s) w J Z.s p u):e9 (Fz X w (DG ρ N) Z'.s) w (ZW ρ J) Z'.s q u:=by
 have up:∀{k:K} {u:Value} {l:List (ty k)},wY (Fz X w N Z.s) w k u l->wY (Fz X w (DG ρ N) Z'.s) w k u l:=fun h=>h.mono hS fun _ _ _ _ h=>h
 cases h with
 | dead=>trivial
 | v x lf h=>obtain⟨Y,D⟩:=z;rw[h D];exact⟨Y,D⟩
 | un=>exact z
 | nil=>exact z
 | row k l=>exact⟨rfl,up z.2⟩
 | eptr k l i j=>obtain⟨b,off,Y,D,I⟩:=z;exact⟨b,off,Y,D,up I⟩
 | fn f=>
  obtain⟨us,Y,D⟩:=z
  exact⟨us,Y,by cases hu:us.toList with
   | nil=>trivial
   | cons x xs=>rw[hu]at D;exact D.elim⟩
 | nilRow k=>have e:u= .slice none 0 0:=z;subst e;exact⟨rfl,wY.nil⟩
 | let_ h H hn=>exact⟨rfl,oF.view hst z h H hS (hlet _ _ _ _ _ h H hn)⟩
 | letF h H hn=>
  rename_i id ver off n blk k l
  rcases aEc hst h H z with⟨rfl,rfl,rfl,_⟩ |⟨rfl,rfl⟩
  ·exact⟨rfl,wY.nil⟩
  ·refine⟨rfl,?_⟩
   have:=oF.view hst z h H hS (hlet _ _ _ _ _ h H hn)
   rwa[dK,iV]at this
 | refF h H M R=>
  rename_i id id' ver off n blk k l
  have hv':=z
  obtain⟨Y,D,I⟩:=z
  refine⟨cT _,D,fun b2 k2 l2 e W=> ?_⟩
  rw[R]at e;cases e
  cases H.row.same W
  have:=I _ _ _ h H.row
  have e2:ZW ρ J id'=J id:=by simp only[ZW,M]
  rw[e2]
  rcases aEc hst h H hv' with⟨rfl,rfl,rfl,hb⟩ |⟨rfl,rfl⟩
  ·exact⟨by simp,.inl ⟨hb,rfl⟩⟩
  ·exact this
 | refV h H M R=>
  rename_i id id' ver off n full blk k l
  obtain⟨Y,D,I⟩:=z
  refine⟨cT _,D,fun b2 k2 l2 e W=> ?_⟩
  rw[R]at e;cases e
  cases H.row.same W
  obtain⟨h4,h5⟩:=I _ _ _ h H.row
  have e2:ZW ρ J id'=J id:=by simp only[ZW,M]
  rw[e2]
  refine⟨h4,h5.imp (fun h=>h) ?_⟩
  rintro⟨b,c,o,q1,q2,q3,q4,q5⟩
  exact⟨b,c,o,q1,q2,q3,(fun hz=>q4 (hz.imp (fun h=>h) (fun h=>nomatch h))),(fun hz=>nomatch hz)⟩
 | nilRef H M R=>
  have e:u= .slice none 0 0:=z
  subst e
  refine⟨cT _,⟨_,_,_,rfl⟩,fun b2 k2 l2 e W=> ?_⟩
  rw[R]at e;cases e
  cases H.row.same W
  exact⟨by simp,.inl ⟨by simp[ZW,M],rfl⟩⟩
 | ptrb h M R=>
  obtain⟨Y,D,I⟩:=z
  refine⟨cT _,D,fun blk e=> ?_⟩
  rw[R]at e;cases e
  have:=I _ h
  simp only[ZW,M]
  exact this
 | ptrr h H M R=>
  obtain⟨Y,D,I⟩:=z
  refine⟨cT _,D,fun blk e=> ?_⟩
  rw[R]at e;cases e
  have:=I _ h
  simp only[ZW,M]
  exact this
 | ptro h M R=>
  obtain⟨Y,D,I⟩:=z
  refine⟨cT _,D,fun blk e=> ?_⟩
  rw[R]at e;cases e
  have:=I _ h
  simp only[ZW,M]
  exact this
theorem I0.noAgg {σ':cU} (h:I0 ρ σ σ' p q):(∀cs,q≠ .tup cs)/\(∀cs,q≠ .agg cs)/\(q= .dead∨(∀cs,p≠ .tup cs)/\(∀cs,p≠ .agg cs)):=by
 cases h with
 | v x lf h=>exact⟨(fun cs e=>by cases lf<;>cases e),(fun cs e=>by cases lf<;>cases e),.inr ⟨(fun _ e=>nomatch e),(fun _ e=>nomatch e)⟩⟩
 | _=>refine⟨(fun _ e=>nomatch e),(fun _ e=>nomatch e),?_⟩ <;>first|exact .inl rfl|exact .inr ⟨(fun _ e=>nomatch e),(fun _ e=>nomatch e)⟩
theorem aLw (e:∀cs,p≠ .agg cs) (h:GA S w J σ p u):e9 S w J σ p u:=by
 cases p<;>first|exact h|exact absurd rfl (e _)
theorem aLy (e:∀cs,p≠ .agg cs) (h:e9 S w J σ p u):GA S w J σ p u:=by
 cases p<;>first|exact h|exact absurd rfl (e _)
theorem aLx (e:∀cs,p≠ .tup cs) (h:gM S w J σ p u):GA S w J σ p u:=by
 cases p<;>first|exact h|exact absurd rfl (e _)
theorem aLv (e:∀cs,p≠ .tup cs) (h:GA S w J σ p u):gM S w J σ p u:=by
 cases p<;>first|exact h|exact absurd rfl (e _)
theorem bC.imp2 {α J γ:Type} {R:α->J->Prop} {T:α->γ->Prop} {U:J->γ->Prop} (h:∀a b c,R a b->T a c->U b c):∀{as:List α} {bs:List J} {cs:List γ},bC R as bs->bC T as cs->bC U bs cs
 | [],[],[],_,_=>trivial
 | _::_,_::_,_::_,⟨e,z⟩,⟨D,H⟩=>⟨h _ _ _ e D,bC.imp2 h z H⟩
 | [],[],_::_,_,h=>h.elim
 | _::_,_::_,[],_,h=>h.elim
theorem SlB.val (D:St X Z w tm J N) (M:∀b,Fz X w N Z.s b->Fz X w (DG ρ N) Z'.s b)
  (z:∀id ver blk k l,Z.s id=⟨ver,some blk⟩->l3 blk k l->(∀i,ρ i≠some (some id))->∀b∈N id,Fz X w (DG ρ N) Z'.s b) {p q:PV} (h:SlB ρ Z.s Z'.s p q) {u:Value} (H:e9 (Fz X w N Z.s) w J Z.s p u):e9 (Fz X w (DG ρ N) Z'.s) w (ZW ρ J) Z'.s q u:=by
 rcases h with h|⟨f,cs,ds,rfl,rfl,h⟩
 ·exact h.val D M z H
 ·obtain⟨us,e,H⟩:=H
  refine⟨us,e,bC.imp2 (fun a b c I R=> ?_) h H⟩
  obtain⟨I,W,Y⟩:=I
  cases a<;>first|(cases W;done)|(cases b<;>first|(cases Y;done)|exact I0.val D M z I R)
theorem SlB.noAgg {σ σ':cU} {p q:PV} (h:SlB ρ σ σ' p q):(∀cs,q≠ .tup cs)/\(∀cs,q≠ .agg cs)/\(q= .dead∨(∀cs,p≠ .tup cs)/\(∀cs,p≠ .agg cs)):=by
 rcases h with h|⟨f,cs,ds,rfl,rfl,h⟩
 ·exact h.noAgg
 ·exact⟨(fun _ e=>nomatch e),(fun _ e=>nomatch e),.inr ⟨(fun _ e=>nomatch e),(fun _ e=>nomatch e)⟩⟩
theorem Sl1.val (z:St X Z w tm J N) (I:∀b,Fz X w N Z.s b->Fz X w (DG ρ N) Z'.s b)
  (e:∀id ver blk k l,Z.s id=⟨ver,some blk⟩->l3 blk k l->(∀i,ρ i≠some (some id))->∀b∈N id,Fz X w (DG ρ N) Z'.s b) {p q:PV} (h:Sl1 ρ Z.s Z'.s p q) {u:Value} (D:GA (Fz X w N Z.s) w J Z.s p u):GA (Fz X w (DG ρ N) Z'.s) w (ZW ρ J) Z'.s q u:=by
 rcases h with h|⟨cs,ds,rfl,rfl,h⟩
 ·obtain⟨M,H,h3⟩:=h.noAgg
  rcases h3 with rfl|h3
  ·trivial
  ·exact aLy H (h.val z I e (aLw h3.2 D))
 ·obtain⟨us,rfl,D⟩:=D
  exact⟨us,rfl,bC.imp2 (fun a b c M H=>M.val z I e H) h D⟩
theorem SlC.val (D:St X Z w tm J N) (M:∀b,Fz X w N Z.s b->Fz X w (DG ρ N) Z'.s b)
  (z:∀id ver blk k l,Z.s id=⟨ver,some blk⟩->l3 blk k l->(∀i,ρ i≠some (some id))->∀b∈N id,Fz X w (DG ρ N) Z'.s b) {p q:PV} (h:SlC ρ Z.s Z'.s p q) {u:Value} (H:gM (Fz X w N Z.s) w J Z.s p u):gM (Fz X w (DG ρ N) Z'.s) w (ZW ρ J) Z'.s q u:=by
 rcases h with h|⟨cs,ds,rfl,rfl,h⟩ |⟨f,cs,ds,rfl,rfl,h⟩
 ·have Y:∀cs,q≠ .tup cs:=by
   rcases h with h|⟨_,_,_,rfl,_⟩
   ·exact h.noAgg.1
   ·exact fun _ e=>nomatch e
  by_cases W:q= .dead
  ·subst W;trivial
  ·have hp:∀cs,p≠ .tup cs:=by
    rcases h with h|⟨_,_,rfl,_,_⟩
    ·rcases h.noAgg.2.2 with h|h
     ·exact absurd h W
     ·exact h.1
    ·exact fun _ e=>nomatch e
   exact aLv Y (h.val D M z (aLx hp H))
 ·obtain⟨us,rfl,H⟩:=H
  exact⟨us,rfl,bC.imp2 (fun a b c I R=>I.val D M z R) h H⟩
 ·obtain⟨us,e,H⟩:=H
  refine⟨us,e,bC.imp2 (fun a b c I R=> ?_) h H⟩
  obtain⟨I,h3,h4⟩:=I
  cases a<;>first|(cases h3;done)|(cases b<;>first|(cases h4;done)|exact I0.val D M z I R)
theorem Nrm.gh {nl:Nat} (hX:X.ext.length=nx) (hL:∀q u n,X.rx q=some (u,n)->q<nl) (h:Nrm nx nl ρ Z Z'):Gh X nt Z Z':=fun a w hg=>by
 obtain⟨hs,hd,J,N,H⟩:=hg
 have occ:∀b,Occ (DG ρ N) Z'.s b->Occ N Z.s b:=by
  rintro b ⟨id,blk,D,I⟩
  cases he:Z'.s id with
  | mk v M=>
   rw[he]at D
   obtain⟨rfl,h3⟩:=h.b id v blk (by rw[he];exact congrArg _ D)
   rcases h3 with⟨z,v0,M,h4,h5,h6⟩ |⟨h4,k,h5⟩
   ·simp only[DG,h4]at I
    exact⟨z,M,by rw[h5],I⟩
   ·simp[DG,h4]at I
 have hS:∀b,Fz X w N Z.s b->Fz X w (DG ρ N) Z'.s b:=fun b R=>⟨R.1,fun ho=>R.2.1 (occ b ho),R.2.2⟩
 have hlet:∀id ver blk k l,Z.s id=⟨ver,some blk⟩->l3 blk k l->(∀i,ρ i≠some (some id))->∀b∈N id,Fz X w (DG ρ N) Z'.s b:=by
  intro id ver blk0 k l he hw hn b R
  have W:(Z.s id).blk=some blk0:=by rw[he]
  refine⟨H.lt id _ W b R,?_,.inr (H.new id _ W b R)⟩
  rintro⟨i,blk,D,I⟩
  cases he':Z'.s i with
  | mk v M=>
   rw[he']at D
   obtain⟨rfl,h3⟩:=h.b i v blk (by rw[he'];exact congrArg _ D)
   rcases h3 with⟨z,v0,M,h4,h5,h6⟩ |⟨h4,k,h5⟩
   ·simp only[DG,h4]at I
    have hne:z≠id:=fun e=>hn i (by rw[h4,e])
    exact H.disj z id _ _ (by rw[h5]) W hne b I R
   ·simp[DG,h4]at I
 have old:∀id b,(Z'.s id).blk=some b->(∃z v0 M,ρ id=some (some z)/\Z.s z=⟨v0,some M⟩/\BlR ρ Z.s Z'.s M b)∨(ρ id=some none/\∃k,l3 b k []):=by
  intro id b R
  cases he:Z'.s id with
  | mk v M=>rw[he]at R;exact(h.b id v b (by rw[he];exact congrArg _ R)).2
 refine⟨hs,hd,ZW ρ J,DG ρ N,⟨fun t u hu=>(h.t t).val H hS hlet (H.tmp t u hu),fun id b R=> ?_,fun id b R x hx=> ?_,fun id b R=> ?_,fun id id' b b' R hb' hne x hx hx'=> ?_,fun id b R x hx=> ?_,fun j p hj=> ?_,fun q u n hq=> ?_,H.frm,H.env,fun b R=>R⟩⟩
 ·rcases old id b R with⟨z,v0,M,D,I,h3⟩ |⟨D,k,hw0⟩
  ·have W:=H.blk z M (by rw[I])
   have e1:ZW ρ J id=J z:=by simp[ZW,D]
   have e2:DG ρ N id=N z:=by simp[DG,D]
   rw[e2]
   cases h3 with
   | box Y=>
    obtain⟨bb,off,cur,E,q1,q2,q3,q4,q5⟩:=W
    refine⟨bb,off,cur,E,e1.trans q1,q2,q3,by rw[<-Y.len];exact q4,fun j p hp=> ?_⟩
    have hj:j<_:=(iR.1 hp).1
    rw[<-Y.len]at hj
    obtain⟨p',hp',hsl⟩:=Y.get j _ (iD hj)
    rw[hp]at hp';cases hp'
    obtain⟨u,hu,h1c,hv⟩:=q5 j _ (iD hj)
    exact⟨u,hu,h1c,hsl.val H hS hlet hv⟩
   | obj=>
    obtain⟨bb,q1,q2,q3⟩:=W
    exact⟨bb,e1.trans q1,q2,q3⟩
   | row hw=>
    cases hw with
    | b=>
     rcases W with⟨q1,q2,q3⟩ |⟨bb,cap,cur,q1,q2,q3⟩
     ·exact .inl ⟨e1.trans q1,q2,q3⟩
     ·exact .inr ⟨bb,cap,cur,e1.trans q1,q2,q3.mono rfl hS fun _ _ _ _ h=>h⟩
    | d=>
     rcases W with⟨q1,q2,q3⟩ |⟨bb,cap,cur,L,q1,q2,q3⟩
     ·exact .inl ⟨e1.trans q1,q2,q3⟩
     ·exact .inr ⟨bb,cap,cur,L,e1.trans q1,q2,q3⟩
  ·cases hw0 with
   | b=>exact .inl ⟨by simp[ZW,D],rfl,by simp[DG,D]⟩
   | d=>exact .inl ⟨by simp[ZW,D],rfl,by simp[DG,D]⟩
 ·rcases old id b R with⟨z,v0,M,D,I,h3⟩ |⟨D,k,hw0⟩
  ·simp only[DG,D]at hx;exact H.lt z M (by rw[I]) x hx
  ·simp[DG,D]at hx
 ·rcases old id b R with⟨z,v0,M,D,I,h3⟩ |⟨D,k,hw0⟩
  ·simp only[DG,D];exact H.nodup z M (by rw[I])
  ·simp[DG,D]
 ·rcases old id b R with⟨z,v0,M,D,I,h3⟩ |⟨D,k,hw0⟩
  ·rcases old id' b' hb' with⟨id0',v0',b0',h1',h2',h3'⟩ |⟨h1',k',hw0'⟩
   ·simp only[DG,D]at hx
    simp only[DG,h1']at hx'
    exact H.disj z id0' M b0' (by rw[I]) (by rw[h2']) (fun e=>hne (h.inj id id' z D (by rw[h1',e]))) x hx hx'
   ·simp[DG,h1']at hx'
  ·simp[DG,D]at hx
 ·rcases old id b R with⟨z,v0,M,D,I,h3⟩ |⟨D,k,hw0⟩
  ·simp only[DG,D]at hx;exact H.new z M (by rw[I]) x hx
  ·simp[DG,D]at hx
 ·have hjn:j<nx:=by rw[<-hX];exact(iR.1 hj).1
  obtain⟨D,cs,I⟩:=h.ext j hjn
  obtain⟨q1,cs0,q2,q3⟩:=H.ext j p hj
  refine⟨by simp[ZW,D,q1],cs,I,?_⟩
  rcases old j _ I with⟨z,v0,M,e1,e2,e3⟩ |⟨e1,k,e2⟩
  ·rw[D]at e1;cases e1
   have:(Z.s j).blk=some M:=by rw[e2]
   rw[q2]at this;cases this
   cases e3 with
   | box Y=>rw[q3,Y.len]
   | row hw=>cases hw
  ·cases e2
 ·obtain⟨D,blk,k,l,I,h3,h4,h5⟩:=H.rxt q u n hq
  obtain⟨g1,b',g2⟩:=h.lnt q (hL q u n hq)
  have he:Z'.s (50+q)=⟨0,some b'⟩:=by
   cases he:Z'.s (50+q)with
   | mk v M=>
    rw[he]at g2
    have g2:M=some b':=g2
    subst g2
    rw[(h.b _ _ _ he).1]
  rcases(h.b _ _ _ he).2 with⟨z,v0,M,e1,e2,e3⟩ |⟨e1,_⟩
  ·rw[g1]at e1;cases e1
   rw[I]at e2;cases e2
   cases e3 with
   | box=>cases h3
   | obj=>cases h3
   | row hw=>
    have hw':=hw
    cases hw.row.same h3
    have hv:e9 (Fz X w (DG ρ N) Z'.s) w (ZW ρ J) Z'.s (.ref (50+q) 0 0 _ true) u:=I0.val H hS hlet (.refF I hw g1 he) (u:=u) (p:= .ref (50+q) 0 0 n true) h5
    exact⟨D,_,k,l,he,h3,h4,by rw[<-h4];exact hv⟩
  ·rw[g1]at e1;cases e1
end
open Go.RowKit
inductive Sh where
 | I (k:IntKind)|S|B
 | row (k:K)|st (k:K) (refs:List (Nat×Nat))
 | own (k:K) (id:Nat)|view (id:Nat)|ptri (id j:Nat)|eptr (k:K) (j:Nat)
 | cfn (f:FuncId) (caps:List (Nat×Nat))
abbrev Sh.V:Sh->Type
 | .I _=>Int| .S=>ByteArray| .B=>Bool
 | .row k=>List (ty k)| .st k _=>ty k
 | .own k _=>List (ty k)| .view _=>Nat×Nat| .ptri _ _=>Nat| .eptr k _=>List (ty k)×Nat
 | .cfn _ _=>Unit
inductive U where
 | nil|un|nptr|fn (f:FuncId) (caps:List (Nat×Nat))|ref (id:Nat)|ptr (id j:Nat)
inductive En where
 | sl (t:Nat) (sh:Sh)|tup (t:Nat) (l:List Sh)
 | bxl (id:Nat) (l:List Sh)|sto (id:Nat) (k:K) (refs:List (Nat×Nat))|rw(id:Nat) (k:K)
 | ob (id:Nat)
abbrev PL:List Sh->Type
 | []=>Unit
 | [a]=>a.V
 | a::b::l=>a.V×PL (b::l)
abbrev En.V:En->Type
 | .sl _ sh=>sh.V| .tup _ l=>PL l| .bxl _ l=>PL l| .sto _ k _=>ty k| .rw _ k=>List (ty k)
 | .ob _=>Obj
abbrev EL:List En->Type
 | []=>Unit
 | [a]=>a.V
 | a::b::l=>a.V×EL (b::l)
structure lV where
 us:List (Nat×U)
 es:List En
def dpI (id:Nat) (k:K):Bool:=match Nat.ble 1000000000 id with
 | true=>true
 | false=>Nat.ble id 98&& !flat k
def SV (d:Bool) (k:K) (l:List (ty k)):oE:=match d with
 | true=> .rowd k l
 | false=> .rowb k l
def aEv (d:Bool) (k:K):oE->Option (List (ty k))
 | .rowb _ l=>(match d with
  | false=>vX k l
  | true=>none)
 | .rowd _ l=>(match d with
  | true=>vX k l
  | false=>none)
 | _=>none
def aHY:oE->Option (Bool×(k:K)×List (ty k))
 | .rowb k l=>some (false,⟨k,l⟩)
 | .rowd k l=>some (true,⟨k,l⟩)
 | _=>none
def nxB (m:Nat):Nat:=match Nat.ble 100 m with
 | true=>0
 | false=>m
def nxL (m:Nat):Nat:=m-100
def ML (refs:List (Nat×Nat)):Nat->List d4->List PV
 | _,[]=> []
 | j,lf::l=>(match jU j refs,lf with
  | some id,.nest _ x=> .ref id 0 0 x.length true
  | _,lf=>qK lf)::ML refs (j+1) l
def GD (refs:List (Nat×Nat)):Nat->List d4->List (Nat×oE)
 | _,[]=> []
 | j,lf::l=>match jU j refs,lf with
  | some id,.nest k x=>(id,SV (dpI id k) k x)::GD refs (j+1) l
  | _,_=>GD refs (j+1) l
def aAt:List (Nat×Nat)->List PV
 | []=> []
 | (id,j)::l=> .ptr id 0 0 j::aAt l
def Sh.enc:(sh:Sh)->sh.V->PV
 | .I k,(n:Int)=> .v (.int k n)
 | .S,(x:ByteArray)=> .v (.string x)
 | .B,(x:Bool)=> .v (.bool x)
 | .row k,l=> .row false k l
 | .st k refs,x=> .agg (ML refs 0 (aG (k:=k) x))
 | .own k id,l=> .ref id 0 0 (List.length l) true
 | .view id,x=> .ref id 0 (Prod.fst x) (Prod.snd x) false
 | .ptri id j,i=> .ptr id 0 i j
 | .eptr k j,x=> .eptr k (Prod.fst x) (Prod.snd x) j
 | .cfn f caps,_=> .fn f (aAt caps)
def Sh.bl:(sh:Sh)->sh.V->List (Nat×oE)
 | .own k id,l=> [(id,SV (dpI id k) k l)]
 | .st k refs,x=>GD refs 0 (aG (k:=k) x)
 | _,_=> []
def WL:(l:List Sh)->PL l->List PV
 | [],_=> []
 | [a],v=> [a.enc v]
 | a::b::l,v=>a.enc v.1::WL (b::l) v.2
def aFw:(l:List Sh)->PL l->List (Nat×oE)
 | [],_=> []
 | [a],v=>a.bl v
 | a::b::l,v=>a.bl v.1++aFw (b::l) v.2
def En.tm:(e:En)->e.V->List (Nat×PV)
 | .sl t sh,x=> [(t,sh.enc x)]
 | .tup t l,x=> [(t,.tup (WL l x))]
 | _,_=> []
def En.bl:(e:En)->e.V->List (Nat×oE)
 | .sl _ sh,x=>sh.bl x
 | .tup _ l,x=>aFw l x
 | .bxl id l,x=>(id,.box (WL l x))::aFw l x
 | .sto id k refs,x=>(id,.box (ML refs 0 (aG (k:=k) x)))::GD refs 0 (aG (k:=k) x)
 | .rw id k,l=> [(id,SV (dpI id k) k l)]
 | .ob id,o=> [(id,.objb o)]
def aKV:(es:List En)->EL es->List (Nat×PV)
 | [],_=> []
 | [a],v=>a.tm v
 | a::b::l,v=>a.tm v.1++aKV (b::l) v.2
def DE:(es:List En)->EL es->List (Nat×oE)
 | [],_=> []
 | [a],v=>a.bl v
 | a::b::l,v=>a.bl v.1++DE (b::l) v.2
def A3 (bl:List (Nat×oE)):cU:=fun id=>match jU id bl with
 | some b=>⟨0,some b⟩
 | none=>⟨0,none⟩
def U.pv (σ:cU):U->PV
 | .nil=> .nil
 | .un=> .un
 | .nptr=> .v (.pointer none)
 | .fn f caps=> .fn f (aAt caps)
 | .ref id=>match σ id with
  | ⟨_,some (.rowb _ l)⟩=> .ref id 0 0 l.length true
  | ⟨_,some (.rowd _ l)⟩=> .ref id 0 0 l.length true
  | _=> .dead
 | .ptr id j=> .ptr id 0 0 j
def aLu (σ:cU):List (Nat×U)->List (Nat×PV)
 | []=> []
 | (t,u)::l=>(t,u.pv σ)::aLu σ l
def aLl (tm:List (Nat×PV)):Nat->PV:=fun t=>match jU t tm with
 | some p=>p
 | none=> .dead
def lV.enc (sh:lV) (v:EL sh.es):gU:=
 ⟨aLl (aLu (A3 (DE sh.es v)) sh.us++aKV sh.es v),A3 (DE sh.es v)⟩
abbrev Rl:=List (Nat×Option Nat)
def aFO:PV->Option Nat
 | .ref id _ _ _ _=>some id
 | _=>none
def uH (refs:List (Nat×Nat)):Nat->List PV->Rl
 | _,[]=> []
 | j,p::ps=>match jU j refs with
  | some id=>(id,aFO p)::uH refs (j+1) ps
  | none=>uH refs (j+1) ps
def Sh.src:Sh->PV->Rl
 | .own _ id,p=> [(id,aFO p)]
 | .st _ refs,.agg cs=>uH refs 0 cs
 | _,_=> []
def WM:List Sh->List PV->Rl
 | a::l,p::ps=>a.src p++WM l ps
 | _,_=> []
def aER (Z:gU) (id:Nat):List PV:=match Z.s id with
 | ⟨_,some (.box cs)⟩=>cs
 | _=> []
def aMN:PV->List PV
 | .tup vs=>vs
 | _=> []
def En.src (Z:gU):En->Rl
 | .sl t sh=>sh.src (Z.t t)
 | .tup t l=>WM l (aMN (Z.t t))
 | .bxl id l=>(id,some id)::WM l (aER Z id)
 | .sto id k refs=>(id,some id)::uH refs 0 (aER Z id)
 | .rw id k=> [(id,some id)]
 | .ob id=> [(id,some id)]
def lV.src (sh:lV) (Z:gU):Rl:=sh.es.flatMap (En.src Z)
def eqN:Option (Option Nat)->Nat->Bool
 | some (some a),b=>Nat.beq a b
 | _,_=>false
def GN (σ:cU) (id ver:Nat):Option oE:=match σ id with
 | ⟨v,some b⟩=>match Nat.beq v ver with
  | true=>some b
  | false=>none
 | _=>none
def HJ (id:Nat):Rl->Bool
 | []=>false
 | (_,some i)::l=>match Nat.beq i id with
  | true=>true
  | false=>HJ id l
 | (_,none)::l=>HJ id l
def aMt (σ:cU) (ρ:Rl) (id ver off n:Nat) (full:Bool):Option aA:=match GN σ id ver,HJ id ρ with
 | some (.rowb k l),false=>some (.nest k (nQ full l off n))
 | some (.rowd k l),false=>some (.nest k (nQ full l off n))
 | _,_=>none
def aEi (σ:cU) (ρ:Rl):PV->Option aA
 | .v x=>some (.sc x)
 | .nil=>some .nl
 | .row false k l=>some (.nest k l)
 | .ref id ver off n full=>aMt σ ρ id ver off n full
 | _=>none
def aH9 (σ:cU) (ρ:Rl) (refs:List (Nat×Nat)):Nat->List PV->Option (List aA)
 | _,[]=>some []
 | j,p::ps=>match(match jU j refs with
   | some id=>(match p with
    | .nil=>(match jU id ρ with
     | some none=>some aA.nl
     | _=>none)
    | .ref id0 ver off n true=>(match eqN (jU id ρ) id0,GN σ id0 ver with
     | true,some b=>(match aHY b with
      | some (d,⟨k,l⟩)=>(match d==dpI id k with
       | true=>some (aA.nest k l)
       | false=>none)
      | none=>none)
     | _,_=>none)
    | _=>none)
   | none=>aEi σ ρ p),aH9 σ ρ refs (j+1) ps with
  | some a,some l=>some (a::l)
  | _,_=>none
def O7 (σ:cU) (ρ:Rl):List (Nat×Nat)->List PV->Bool
 | [],[]=>true
 | (id, j) :: l, .ptr id0 ver i j' :: ps => Nat.beq i 0 && (Nat.beq j' j && (eqN (jU id ρ) id0 && ((match GN σ id0 ver with
  | some (.box _) => true
  | _ => false) && O7 σ ρ l ps)))
 | _,_=>false
def Sh.dec (σ:cU) (ρ:Rl):(sh:Sh)->PV->Option sh.V
 | .I k,.v (.int k' n)=>if k'=k then some n else none
 | .S,.v (.string x)=>some x
 | .B,.v (.bool x)=>some x
 | .row k,p=>match aEi σ ρ p with
  | some x=>x.list k
  | none=>none
 | .st k refs,.agg cs=>match aH9 σ ρ refs 0 cs with
  | some l=>nJ k l
  | none=>none
 | .own k id,.nil=>match jU id ρ with
  | some none=>some []
  | _=>none
 | .own k id,.ref id0 ver off n true=>match eqN (jU id ρ) id0,GN σ id0 ver with
  | true,some b=>aEv (dpI id k) k b
  | _,_=>none
 | .view id,.ref id0 ver off n _=>match eqN (jU id ρ) id0,GN σ id0 ver with
  | true,some (.rowb _ _)=>some (off,n)
  | true,some (.rowd _ _)=>some (off,n)
  | _,_=>none
 | .ptri id j,.ptr id0 ver i j'=>match Nat.beq j' j,eqN (jU id ρ) id0,GN σ id0 ver with
  | true,true,some (.box _)=>some i
  | true,true,some (.rowb _ _)=>some i
  | true,true,some (.rowd _ _)=>some i
  | _,_,_=>none
 | .eptr k j,.eptr _ l i j'=>match Nat.beq j' j,vX k l with
  | true,some l=>some (l,i)
  | _,_=>none
 | .cfn f caps,.fn f' ps=>match Nat.beq f f'&&O7 σ ρ caps ps with
  | true=>some ()
  | false=>none
 | _,_=>none
def G0 (σ:cU) (ρ:Rl):(l:List Sh)->List PV->Option (PL l)
 | [],[]=>some ()
 | [a],[p]=>a.dec σ ρ p
 | a::b::l,p::ps=>match a.dec σ ρ p,G0 σ ρ (b::l) ps with
  | some x,some y=>some (x,y)
  | _,_=>none
 | _,_=>none
def En.dec (Z:gU) (ρ:Rl):(e:En)->Option e.V
 | .sl t sh=>sh.dec Z.s ρ (Z.t t)
 | .tup t l=>match Z.t t with
  | .tup vs=>G0 Z.s ρ l vs
  | _=>none
 | .bxl id l=>match Z.s id with
  | ⟨_,some (.box cs)⟩=>G0 Z.s ρ l cs
  | _=>none
 | .sto id k refs=>match Z.s id with
  | ⟨_,some (.box cs)⟩=>(match aH9 Z.s ρ refs 0 cs with
   | some l=>nJ k l
   | none=>none)
  | _=>none
 | .rw id k=>match Z.s id with
  | ⟨_,some b⟩=>aEv (dpI id k) k b
  | _=>none
 | .ob id=>match Z.s id with
  | ⟨_,some (.objb o)⟩=>some o
  | _=>none
def aD5 (Z:gU) (ρ:Rl):(es:List En)->Option (EL es)
 | []=>some ()
 | [a]=>a.dec Z ρ
 | a::b::l=>match a.dec Z ρ,aD5 Z ρ (b::l)with
  | some x,some y=>some (x,y)
  | _,_=>none
def U.ok (σ:cU) (ρ:Rl):U->PV->Bool
 | .nil,.nil=>true
 | .un,.un=>true
 | .nptr,.v (.pointer none)=>true
 | .fn f caps,.fn f' ps=>Nat.beq f f'&&O7 σ ρ caps ps
 | .ref id,.ref id0 ver off n true=>match eqN (jU id ρ) id0,GN σ id0 ver with
  | true,some (.rowb _ _)=>true
  | true,some (.rowd _ _)=>true
  | _,_=>false
 | .ptr id j,.ptr id0 ver i j'=>Nat.beq i 0&&(Nat.beq j' j&&(eqN (jU id ρ) id0&&(match GN σ id0 ver with
  | some (.box _)=>true
  | some (.rowb _ _)=>true
  | some (.rowd _ _)=>true
  | some (.objb _)=>true
  | _=>false)))
 | _,_=>false
def aJ1 (Z:gU) (ρ:Rl):List (Nat×U)->Bool
 | []=>true
 | (t,u)::l=>u.ok Z.s ρ (Z.t t)&&aJ1 Z ρ l
def G3:Rl->List Nat
 | []=> []
 | (_,some i)::l=>i::G3 l
 | (_,none)::l=>G3 l
def YL:List Nat->Bool
 | []=>true
 | x::l=> !(l.any fun y=>Nat.beq y x)&&YL l
def aGg (nx:Nat):Rl->Bool
 | []=>true
 | (i,some j)::l=>(Nat.beq i j||(Nat.ble nx i&&Nat.ble nx j))&&aGg nx l
 | (_,none)::l=>aGg nx l
def YB (bl:List (Nat×oE)) (j:Nat):Bool:=match jU j bl with
 | some (.box _)=>true
 | _=>false
def aEd (bl:List (Nat×oE)) (j:Nat):Bool:=match jU j bl with
 | some _=>true
 | none=>false
def aMn (nx:Nat) (ρ:Rl) (bl:List (Nat×oE)):Bool:=((List.range (nxB nx)).all fun j=>eqN (jU j ρ) j&&YB bl j)&&((List.range (nxL nx)).all fun q=>eqN (jU (50+q) ρ) (50+q)&&aEd bl (50+q))
def En.okB:En->Bool
 | .bxl _ l=>l.all fun s=>match s with
  | .st _ _=>false
  | _=>true
 | _=>true
def aLt (s:cU) (id:Nat):cU:=match s id with
 | ⟨ver,some (.rowx k l i cs)⟩=>(match yG s k cs with
  | some (y,A)=>eN (iP A s) id ⟨ver,some (.rowd k (l.set i y))⟩
  | none=>s)
 | _=>s
def aIz:List Nat->cU->cU
 | [],s=>s
 | id::l,s=>aIz l (aLt s id)
def MO (ids:List Nat) (Z:gU):gU:=⟨Z.t,aIz ids Z.s⟩
def lV.dec (nx:Nat) (sh:lV) (Z0:gU):Option (EL sh.es):=
 let Z:=MO (G3 (sh.src Z0)) Z0
 match aD5 Z (sh.src Z) sh.es with
 | none=>none
 | some v=>match sh.es.all En.okB&&(YL ((sh.src Z).map (·.1))&&(YL (G3 (sh.src Z))&&(YL ((DE sh.es v).map (·.1))&&(aGg (nxB nx) (sh.src Z)&&(aMn nx (sh.src Z) (DE sh.es v)&&aJ1 Z (sh.src Z) sh.us)))))with
  | true=>some v
  | false=>none
open Go.RowKit
theorem cG {id:Nat} (h:GN σ id ver=some b):σ id=⟨ver,some b⟩:=by
 unfold GN at h
 split at h
 ·rename_i v D e
  split at h
  ·rename_i z;cases h;rw[e,aS z]
  ·cases h
 ·cases h
theorem eW {x:Option (Option Nat)} {b:Nat} (h:eqN x b=true):x=some (some b):=by
 unfold eqN at h
 split at h
 ·rw[aS h]
 ·cases h
theorem D1 {id:Nat}:∀{ρ:Rl},HJ id ρ=false->∀i,(i,some id)∉ρ
 | [],_,i=>by simp
 | (a,some j)::l,h,i=>by
  unfold HJ at h
  split at h
  ·cases h
  ·rename_i e
   have z:j≠id:=fun D=>by rw[D,oA]at e;cases e
   simp only[dS,Prod.mk.injEq,Option.some.injEq,not_or]
   exact⟨fun h=>z h.2.symm,D1 h i⟩
 | (a,none)::l,h,i=>by
  unfold HJ at h
  simp only[dS,Prod.mk.injEq,reduceCtorEq,and_false,false_or]
  exact D1 h i
def KO (e:Ent) (b:oE):Prop:=match b with
 | .rowb k l=>e=⟨0,some (.rowb k l)⟩
 | .rowd k l=>e=⟨0,some (.rowd k l)⟩
 | .box _=>∃cs,e=⟨0,some (.box cs)⟩
 | .objb o=>e=⟨0,some (.objb o)⟩
 | _=>True
theorem KO.row {e:Ent} {l:List (ty k)} (h:KO e b) (z:l3 b k l):e=⟨0,some b⟩:=by cases z<;>exact h
theorem KO.self {l:List (ty k)} (e:l3 b k l):KO ⟨0,some b⟩ b:=by cases e<;>exact rfl
theorem pD (d:Bool) (k:K) (l:List (ty k)):l3 (SV d k l) k l:=by cases d<;>constructor
theorem IK {d:Bool} {l:List (ty k)} (h:aEv d k b=some l):b=SV d k l:=by
 unfold aEv at h
 split at h
 ·split at h
  ·obtain⟨rfl,rfl⟩:=hU h;rfl
  ·cases h
 ·split at h
  ·obtain⟨rfl,rfl⟩:=hU h;rfl
  ·cases h
 ·cases h
theorem aDF {d:Bool} {l:List (ty k)} (h:aHY b=some (d,⟨k,l⟩)):b=SV d k l:=by
 unfold aHY at h
 split at h
 ·cases h;rfl
 ·cases h;rfl
 ·cases h
section
variable {Z:gU} {ρl:Rl} {σ':cU}
structure Hy (Z:gU) (ρl:Rl) (σ':cU):Prop where
 a:∀id,HJ id ρl=false->∀i,jU i ρl≠some (some id)
 b:∀id id0 ver b,jU id ρl=some (some id0)->Z.s id0=⟨ver,some b⟩->KO (σ' id) b
abbrev ρf (ρl:Rl):Rn:=fun id=>jU id ρl
theorem QI (H:Hy Z ρl σ') {x:aA} {lf:d4} (h:aEi Z.s ρl p=some x) (z:oL x lf):I0 (ρf ρl) Z.s σ' p (qK lf):=by
 unfold aEi at h
 split at h
 ·cases h;exact .v _ _ z
 ·cases h;obtain⟨k,rfl⟩:=z;exact .nilRow k
 ·cases h;have e:lf=_:=z;subst e;exact .row _ _
 ·rename_i id ver off n full
  unfold aMt at h
  split at h
  ·rename_i k l D I
   cases h
   have e:lf=_:=z
   subst e
   cases full with
   | true=>exact .letF (cG D) .b (H.a _ I)
   | false=>exact .let_ (cG D) .b (H.a _ I)
  ·rename_i k l D I
   cases h
   have e:lf=_:=z
   subst e
   cases full with
   | true=>exact .letF (cG D) .d (H.a _ I)
   | false=>exact .let_ (cG D) .d (H.a _ I)
  ·cases h
 ·cases h
abbrev SB (Z:gU) (src:Rl) (bl:List (Nat×oE)):Prop:=∀id id0 ver b,(id,some id0)∈src->Z.s id0=⟨ver,some b⟩->∃b',(id,b')∈bl/\KO ⟨0,some b'⟩ b
abbrev BS (Z:gU) (ρl:Rl) (σ':cU) (src:Rl) (bl:List (Nat×oE)):Prop:=∀id b',(id,b')∈bl->(∃id0 v0 b0,(id,some id0)∈src/\Z.s id0=⟨v0,some b0⟩/\BlR (ρf ρl) Z.s σ' b0 b')∨((id,none)∈src/\∃k,l3 b' k [])
theorem SB.app {s1 s2:Rl} {H I:List (Nat×oE)} (R:SB Z s1 H) (W:SB Z s2 I):SB Z (s1++s2) (H++I):=fun id e ver b Y M=>by
 rcases List.mem_append.1 Y with h|h
 ·obtain⟨z,D,q2⟩:=R id e ver b h M;exact⟨z,bJ _ D,q2⟩
 ·obtain⟨z,D,q2⟩:=W id e ver b h M;exact⟨z,bG _ D,q2⟩
theorem BS.app {s1 s2:Rl} {e z:List (Nat×oE)} (H:BS Z ρl σ' s1 e) (I:BS Z ρl σ' s2 z):BS Z ρl σ' (s1++s2) (e++z):=fun id D M=>by
 rcases List.mem_append.1 M with h|h
 ·exact(H id D h).imp (fun⟨i,v,b,q,r⟩=>⟨i,v,b,bJ _ q,r⟩) (fun⟨q,r⟩=>⟨bJ _ q,r⟩)
 ·exact(I id D h).imp (fun⟨i,v,b,q,r⟩=>⟨i,v,b,bG _ q,r⟩) (fun⟨q,r⟩=>⟨bG _ q,r⟩)
theorem SB.nil {b:List (Nat×oE)}:SB Z [] b:=fun _ _ _ _ h=>by cases h
theorem BS.nil {s:Rl}:BS Z ρl σ' s []:=fun _ _ h=>by cases h
theorem KT {refs:List (Nat×Nat)}:∀{ps:List PV} {ls:List aA} {lfs:List d4} {j:Nat},aH9 Z.s ρl refs j ps=some ls->bC oL ls lfs->
  SB Z (uH refs j ps) (GD refs j lfs)/\BS Z ρl σ' (uH refs j ps) (GD refs j lfs)/\(Hy Z ρl σ'->(∀id b,(id,b)∈GD refs j lfs->σ' id=⟨0,some b⟩)->bC (I0 (ρf ρl) Z.s σ') ps (ML refs j lfs))
 | [],ls,lfs,j,h,hi=>by
  cases h
  cases lfs with
  | nil=>exact⟨SB.nil,BS.nil,fun _ _=>trivial⟩
  | cons _ _=>exact hi.elim
 | p::ps,ls,lfs,j,h,hi=>by
  unfold aH9 at h
  split at h
  ·rename_i a l D h2
   cases h
   cases lfs with
   | nil=>exact hi.elim
   | cons lf lfs=>
    obtain⟨I,hi2⟩:=hi
    obtain⟨q1,q2,q3⟩:=KT (j:=j+1) h2 hi2
    cases z:jU j refs with
    | none=>
     simp only[z]at D
     have e1:uH refs j (p::ps)=uH refs (j+1) ps:=by simp[uH,z]
     have W:GD refs j (lf::lfs)=GD refs (j+1) lfs:=by simp[GD,z]
     have Y:ML refs j (lf::lfs)=qK lf::ML refs (j+1) lfs:=by simp[ML,z]
     rw[e1,W,Y]
     exact⟨q1,q2,fun H M=>⟨QI H D I,q3 H M⟩⟩
    | some id=>
     simp only[z]at D
     have e1:uH refs j (p::ps)=(id,aFO p)::uH refs (j+1) ps:=by simp[uH,z]
     rw[e1]
     split at D
     ·split at D
      ·rename_i e
       cases D
       obtain⟨k,rfl⟩:=I
       have W:GD refs j (.nest k []::lfs)=(id,SV (dpI id k) k [])::GD refs (j+1) lfs:=by simp[GD,z]
       have Y:ML refs j (.nest k []::lfs)= .ref id 0 0 0 true::ML refs (j+1) lfs:=by simp[ML,z]
       rw[W,Y]
       refine⟨fun i id0 ver b hm he=> ?_,fun i R hm=> ?_,fun H M=>⟨.nilRef (k:=k) (pD _ _ _) e (M _ _ (aN ..)),q3 H fun i b hm=>M i b (aI _ hm)⟩⟩
       ·rcases List.mem_cons.1 hm with hm|hm
        ·cases hm
        ·obtain⟨R,r1,r2⟩:=q1 i id0 ver b hm he;exact⟨R,aI _ r1,r2⟩
       ·rcases List.mem_cons.1 hm with hm|hm
        ·cases hm;exact .inr ⟨aN ..,k,pD _ _ _⟩
        ·exact(q2 i R hm).imp (fun⟨i,v,b,q,r⟩=>⟨i,v,b,aI _ q,r⟩) (fun⟨q,r⟩=>⟨aI _ q,r⟩)
      ·cases D
     ·rename_i id0 ver off n
      split at D
      ·rename_i blk e4 e5
       split at D
       case h_2=>cases D
       rename_i d k l e6
       split at D
       case h_2=>cases D
       rename_i e7
       cases D
       obtain rfl:=aDF e6
       obtain rfl:d=dpI id k:=eq_of_beq e7
       have I:lf= .nest k l:=I
       subst I
       have e5:=cG e5
       have W:GD refs j (.nest k l::lfs)=(id,SV (dpI id k) k l)::GD refs (j+1) lfs:=by simp[GD,z]
       have Y:ML refs j (.nest k l::lfs)= .ref id 0 0 l.length true::ML refs (j+1) lfs:=by simp[ML,z]
       rw[W,Y]
       refine⟨fun i id0' ver b hm he=> ?_,fun i R hm=> ?_,fun H M=>⟨.refF e5 (pD _ _ _) (eW e4) (M _ _ (aN ..)),q3 H fun i b hm=>M i b (aI _ hm)⟩⟩
       ·rcases List.mem_cons.1 hm with hm|hm
        ·cases hm
         rw[e5]at he;cases he
         exact⟨_,aN ..,KO.self (pD _ _ _)⟩
        ·obtain⟨R,r1,r2⟩:=q1 i id0' ver b hm he;exact⟨R,aI _ r1,r2⟩
       ·rcases List.mem_cons.1 hm with hm|hm
        ·cases hm;exact .inl ⟨_,_,_,aN ..,e5,.row (pD _ _ _)⟩
        ·exact(q2 i R hm).imp (fun⟨i,v,b,q,r⟩=>⟨i,v,b,aI _ q,r⟩) (fun⟨q,r⟩=>⟨aI _ q,r⟩)
      ·cases D
     ·cases D
  ·cases h
theorem list_spec {k:K} {x:aA} {l:List (ty k)} (h:x.list k=some l):oL x (.nest k l):=aA.list_spec h
theorem DU (H:Hy Z ρl σ'):∀{l:List (Nat×Nat)} {ps:List PV},O7 Z.s ρl l ps=true->bC (SlP (ρf ρl) Z.s σ') ps (aAt l)
 | [],[],_=>trivial
 | [],_::_,h=>by cases h
 | (id,j)::l,[],h=>by cases h
 | (id,j)::l,p::ps,h=>by
  unfold O7 at h
  split at h
  ·rename_i z e;cases z
  ·rename_i M j1 l1 R ver i j' W z e
   cases z;cases e
   simp only[aB]at h
   obtain⟨Y,h2,D,I,h5⟩:=h
   rw[aS Y,aS h2]
   split at I
   ·rename_i cs e
    obtain⟨cs',e3⟩:=H.b _ _ _ _ (eW D) (cG e)
    exact⟨⟨.ptrb (cG e) (eW D) e3,rfl,rfl⟩,DU H h5⟩
   ·cases I
  ·cases h
theorem Sh.dec_spec (H:Hy Z ρl σ'):∀{sh:Sh} {p:PV} {x:sh.V},sh.dec Z.s ρl p=some x->(∀id b,(id,b)∈sh.bl x->σ' id=⟨0,some b⟩)->
  Sl1 (ρf ρl) Z.s σ' p (sh.enc x)/\((∀k r,sh≠ .st k r)->SlB (ρf ρl) Z.s σ' p (sh.enc x)):=by
 intro sh p x h W
 have z:I0 (ρf ρl) Z.s σ' p (sh.enc x)->Sl1 (ρf ρl) Z.s σ' p (sh.enc x)/\((∀k r,sh≠ .st k r)->SlB (ρf ρl) Z.s σ' p (sh.enc x)):=fun h=>⟨.inl (.inl h),fun _=> .inl h⟩
 unfold Sh.dec at h
 split at h
 ·rename_i k k' n
  split at h
  ·rename_i e;subst e;cases h;exact z (.v _ (.sc _) fun _=>rfl)
  ·cases h
 ·cases h;exact z (.v _ (.sc _) fun _=>rfl)
 ·cases h;exact z (.v _ (.sc _) fun _=>rfl)
 ·rename_i k p
  split at h
  ·rename_i y Y;exact z (QI H Y (list_spec h))
  ·cases h
 ·rename_i k refs cs
  split at h
  ·rename_i l hl
   exact⟨.inr ⟨_,_,rfl,rfl,(KT hl (iX h)).2.2 H W⟩,fun hn=>absurd rfl (hn k refs)⟩
  ·cases h
 ·rename_i k id
  split at h
  ·rename_i e
   cases h
   exact z (.nilRef (k:=k) (pD _ _ _) e (W id _ (aN ..)))
  ·cases h
 ·rename_i k id M ver off n
  split at h
  ·rename_i b D I
   obtain rfl:=IK h
   exact z (.refF (cG I) (pD _ _ _) (eW D) (W id _ (aN ..)))
  ·cases h
 ·rename_i id M ver off n full
  split at h
  ·rename_i k' l D I
   cases h
   have:=H.b _ _ _ _ (eW D) (cG I)
   exact z (.refV (cG I) .b (eW D) this)
  ·rename_i k' l D I
   cases h
   have:=H.b _ _ _ _ (eW D) (cG I)
   exact z (.refV (cG I) .d (eW D) this)
  ·cases h
 ·rename_i id j M ver i j'
  split at h
  ·rename_i cs e0 D I
   cases h
   obtain⟨cs',R⟩:=H.b _ _ _ _ (eW D) (cG I)
   obtain rfl:=aS e0
   exact z (.ptrb (cG I) (eW D) R)
  ·rename_i k l e0 D I
   cases h
   have R:=H.b _ _ _ _ (eW D) (cG I)
   obtain rfl:=aS e0
   exact z (.ptrr (cG I) .b (eW D) R)
  ·rename_i k l e0 D I
   cases h
   have R:=H.b _ _ _ _ (eW D) (cG I)
   obtain rfl:=aS e0
   exact z (.ptrr (cG I) .d (eW D) R)
  ·cases h
 ·rename_i k j k' l i j'
  split at h
  ·rename_i l' e0 D
   cases h
   obtain⟨rfl,rfl⟩:=hU D
   obtain rfl:=aS e0
   exact z (.eptr _ _ _ _)
  ·cases h
 ·rename_i f caps f' ps
  split at h
  ·rename_i e
   cases h
   rw[aB]at e
   obtain rfl:=aS e.1
   have:=DU H e.2
   exact⟨.inl (.inr ⟨_,_,_,rfl,rfl,this⟩),fun _=> .inr ⟨_,_,_,rfl,rfl,this⟩⟩
  ·cases h
 ·cases h
theorem SQ (H:Hy Z ρl σ'):∀{l:List Sh} {ps:List PV} {x:PL l},G0 Z.s ρl l ps=some x->(∀id b,(id,b)∈aFw l x->σ' id=⟨0,some b⟩)->
  bC (Sl1 (ρf ρl) Z.s σ') ps (WL l x)/\((∀s∈l,∀k r,s≠ .st k r)->bC (SlB (ρf ρl) Z.s σ') ps (WL l x)):=by
 intro l
 induction l with
 | nil=>
  intro ps x h e
  cases ps with
  | nil=>exact⟨trivial,fun _=>trivial⟩
  | cons _ _=>cases h
 | cons a l ih=>
  intro ps x h e
  cases l with
  | nil=>
   match ps,h with
   | [p],h=>
    have:=Sh.dec_spec H (sh:=a) (p:=p) h e
    exact⟨⟨this.1,trivial⟩,fun z=>⟨this.2 (z a (by simp)),trivial⟩⟩
   | [],h=>cases h
   | _::_::_,h=>cases h
  | cons b l=>
   match ps,h with
   | p::ps,h=>
    unfold G0 at h
    split at h
    ·rename_i Y y1 M R
     cases h
     have I:=Sh.dec_spec H M fun id b D=>e id b (bJ _ D)
     have q2:=ih R fun id b D=>e id b (bG _ D)
     exact⟨⟨I.1,q2.1⟩,fun z=>⟨I.2 (z a (by simp)),q2.2 fun s W=>z s (aI _ W)⟩⟩
    ·cases h
   | [],h=>cases h
end
open Go.RowKit
section
variable {Z:gU} {ρl:Rl} {σ':cU}
theorem Sh.sb:∀{sh:Sh} {p:PV} {x:sh.V},sh.dec Z.s ρl p=some x->SB Z (sh.src p) (sh.bl x)/\BS Z ρl σ' (sh.src p) (sh.bl x):=by
 intro sh p x h
 cases sh with
 | own k id=>
  cases p with
  | nil=>
   simp only[Sh.dec]at h
   split at h
   ·cases h
    refine⟨fun i z ver b e I=> ?_,fun i M e=> ?_⟩
    ·simp[Sh.src,aFO]at e
    ·obtain⟨rfl,rfl⟩:i=id/\M=SV (dpI id k) k []:=by simpa [Sh.bl]using e
     exact .inr ⟨by simp[Sh.src,aFO],k,pD _ _ _⟩
   ·cases h
  | ref z ver off n full=>
   cases full with
   | false=>simp[Sh.dec]at h
   | true=>
    simp only[Sh.dec]at h
    split at h
    ·rename_i blk W H
     obtain rfl:=IK h
     have H:=cG H
     refine⟨fun i D ver b e I=> ?_,fun i M e=> ?_⟩
     ·obtain⟨rfl,rfl⟩:i=id/\D=z:=by simpa [Sh.src,aFO]using e
      rw[H]at I;cases I
      exact⟨_,aN ..,KO.self (pD _ _ _)⟩
     ·obtain⟨rfl,rfl⟩:i=id/\M=SV (dpI id k) k x:=by simpa [Sh.bl]using e
      exact .inl ⟨_,_,_,aN ..,H,.row (pD _ _ _)⟩
    ·cases h
  | _=>simp[Sh.dec]at h
 | st k refs=>
  cases p with
  | agg cs=>
   simp only[Sh.dec]at h
   split at h
   ·rename_i l R
    have:=KT (σ':=σ') R (iX h)
    exact⟨this.1,this.2.1⟩
   ·cases h
  | _=>simp[Sh.dec]at h
 | _=>exact⟨SB.nil,BS.nil⟩
theorem G0.sb:∀{l:List Sh} {ps:List PV} {x:PL l},G0 Z.s ρl l ps=some x->SB Z (WM l ps) (aFw l x)/\BS Z ρl σ' (WM l ps) (aFw l x):=by
 intro l
 induction l with
 | nil=>
  intro ps x h
  exact⟨by cases ps<;>exact SB.nil,BS.nil⟩
 | cons a l ih=>
  intro ps x h
  cases l with
  | nil=>
   match ps,h with
   | [p],h=>
    have:=Sh.sb (σ':=σ') (sh:=a) (p:=p) h
    simp only[WM,bO]
    exact this
   | [],h=>cases h
   | _::_::_,h=>cases h
  | cons b l=>
   match ps,h with
   | p::ps,h=>
    unfold G0 at h
    split at h
    ·rename_i H I z D
     cases h
     have e:=Sh.sb (σ':=σ') z
     have q2:=ih D
     exact⟨e.1.app q2.1,e.2.app q2.2⟩
    ·cases h
   | [],h=>cases h
theorem aDT {id:Nat} {cs:List PV} (h:Z.s id=⟨v,some (.box cs)⟩):aER Z id=cs:=by unfold aER;rw[h]
theorem aH4 {id:Nat} {cs:List PV} {src:Rl} {ds:List PV} {bl:List (Nat×oE)} (D:Z.s id=⟨v,some (.box cs)⟩) (H:SB Z src bl):SB Z ((id,some id)::src) ((id,.box ds)::bl):=fun i z ver b hm e=>by
 rcases List.mem_cons.1 hm with hm|hm
 ·cases hm
  rw[D]at e;cases e
  exact⟨_,aN ..,_,rfl⟩
 ·obtain⟨I,M,R⟩:=H i z ver b hm e;exact⟨I,aI _ M,R⟩
theorem aGl {id:Nat} {cs:List PV} {src:Rl} {ds:List PV} {bl:List (Nat×oE)} (e:Z.s id=⟨v,some (.box cs)⟩) (z:BS Z ρl σ' src bl) (D:bC (SlB (ρf ρl) Z.s σ') cs ds):BS Z ρl σ' ((id,some id)::src) ((id,.box ds)::bl):=fun i H hm=>by
 rcases List.mem_cons.1 hm with hm|hm
 ·cases hm;exact .inl ⟨id,v,_,aN ..,e,.box D⟩
 ·exact(z i H hm).imp (fun⟨i,v,b,q,r⟩=>⟨i,v,b,aI _ q,r⟩) (fun⟨q,r⟩=>⟨aI _ q,r⟩)
theorem aFo {id:Nat} {l:List Sh} (h:(En.bxl id l).okB=true):∀s∈l,∀k r,s≠ .st k r:=fun s z k r e=>by
 subst e
 have:=List.all_eq_true.1 h _ z
 cases this
theorem En.spec:∀{e:En} {x:e.V},e.okB=true->e.dec Z ρl=some x->SB Z (e.src Z) (e.bl x)/\(Hy Z ρl σ'->(∀id b,(id,b)∈e.bl x->σ' id=⟨0,some b⟩)->BS Z ρl σ' (e.src Z) (e.bl x)/\∀t p,(t,p)∈e.tm x->SlC (ρf ρl) Z.s σ' (Z.t t) p):=by
 intro e x Y h
 cases e with
 | sl t sh=>
  have q:=Sh.sb (σ':=σ') (sh:=sh) h
  refine⟨q.1,fun H I=>⟨q.2,fun R p z=> ?_⟩⟩
  obtain⟨rfl,rfl⟩:R=t/\p=sh.enc x:=by simpa [En.tm]using z
  exact .inl (Sh.dec_spec H (sh:=sh) h I).1
 | tup t l=>
  simp only[En.dec]at h
  split at h
  ·rename_i vs D
   have q:=G0.sb (σ':=σ') (l:=l) h
   simp only[En.src,D,aMN]
   refine⟨q.1,fun H I=>⟨q.2,fun R p z=> ?_⟩⟩
   obtain⟨rfl,rfl⟩:R=t/\p= .tup (WL l x):=by simpa [En.tm]using z
   rw[D]
   exact .inr (.inl ⟨_,_,rfl,rfl,(SQ H h I).1⟩)
  ·cases h
 | bxl id l=>
  simp only[En.dec]at h
  split at h
  ·rename_i v cs D
   have q:=G0.sb (σ':=σ') (l:=l) h
   simp only[En.src,En.bl,aDT D]
   exact⟨aH4 D q.1,fun H I=>⟨aGl D q.2 ((SQ H h fun i b z=>I i b (aI _ z)).2 (aFo (id:=id) Y)),fun t p z=>by cases z⟩⟩
  ·cases h
 | sto id k refs=>
  simp only[En.dec]at h
  split at h
  ·rename_i v cs D
   split at h
   ·rename_i l hl
    have q:=KT (σ':=σ') hl (iX h)
    simp only[En.src,En.bl,aDT D]
    exact⟨aH4 D q.1,fun H I=>⟨aGl D q.2.1 ((q.2.2 H fun i b z=>I i b (aI _ z)).mono fun _ _ h=> .inl h),fun t p z=>by cases z⟩⟩
   ·cases h
  ·cases h
 | rw id k=>
  simp only[En.dec]at h
  split at h
  ·rename_i v blk D
   obtain rfl:=IK h
   refine⟨fun i M ver b z e=> ?_,fun H I=>⟨fun i W z=> ?_,fun t p z=>by cases z⟩⟩
   ·obtain⟨rfl,rfl⟩:i=id/\M=id:=by simpa [En.src]using z
    rw[D]at e;cases e
    exact⟨_,aN ..,KO.self (pD _ _ _)⟩
   ·obtain⟨rfl,rfl⟩:i=id/\W=SV (dpI id k) k x:=by simpa [En.bl]using z
    exact .inl ⟨_,_,_,aN ..,D,.row (pD _ _ _)⟩
  ·cases h
 | ob id=>
  simp only[En.dec]at h
  split at h
  ·rename_i v o D
   cases h
   refine⟨fun i M ver b z e=> ?_,fun H I=>⟨fun i W z=> ?_,fun t p z=>by cases z⟩⟩
   ·obtain⟨rfl,rfl⟩:i=id/\M=id:=by simpa [En.src]using z
    rw[D]at e;cases e
    exact⟨_,aN ..,rfl⟩
   ·obtain⟨rfl,rfl⟩:i=id/\W= .objb x:=by simpa [En.bl]using z
    exact .inl ⟨_,_,_,aN ..,D,.obj⟩
  ·cases h
end
open Go.RowKit
theorem FI:∀{l:List Nat},YL l=true->l.Nodup
 | [],_=>nT
 | x::l,h=>by
  simp only[YL,aB,dC,gT]at h
  refine List.nodup_cons.2 ⟨fun e=> ?_,FI h.2⟩
  have:=h.1 x e
  rw[oA]at this
  exact this rfl
theorem xG {α:Type}:∀{l:List (Nat×α)} {a:Nat} {b:α},(l.map (·.1)).Nodup->(a,b)∈l->jU a l=some b
 | (k,v)::l,a,b,z,hm=>by
  rw[bR,gH]at z
  unfold jU
  rcases List.mem_cons.1 hm with e|hm
  ·cases e;rw[if_pos rfl]
  ·rw[if_neg (fun e=>z.1 (by rw[e];exact List.mem_map.2 ⟨_,hm,rfl⟩))]
   exact xG z.2 hm
 | [],_,_,_,hm=>by cases hm
theorem S9:∀{l:Rl} {i j id:Nat},(G3 l).Nodup->(i,some id)∈l->(j,some id)∈l->i=j
 | (a,none)::l,i,j,id,z,h1,h2=>by
  have h1:(i,some id)∈l:=(List.mem_cons.1 h1).resolve_left (fun e=>nomatch e)
  have h2:(j,some id)∈l:=(List.mem_cons.1 h2).resolve_left (fun e=>nomatch e)
  exact S9 (l:=l) z h1 h2
 | (a,some x)::l,i,j,id,z,h1,h2=>by
  have mem:∀{l:Rl} {i:Nat},(i,some id)∈l->id∈G3 l:=by
   intro l
   induction l with
   | nil=>intro i h;cases h
   | cons y l ih=>
    intro i h
    obtain⟨a,b⟩:=y
    cases b with
    | none=>simp only[dS,Prod.mk.injEq,reduceCtorEq,and_false,false_or]at h;exact ih h
    | some b=>
     rcases List.mem_cons.1 h with e|h
     ·cases e;exact aN ..
     ·exact aI _ (ih h)
  have z:(x::G3 l).Nodup:=z
  rw[gH]at z
  rcases List.mem_cons.1 h1 with H|h1
  ·rcases List.mem_cons.1 h2 with D|h2
   ·cases H;cases D;rfl
   ·cases H;exact absurd (mem h2) z.1
  ·rcases List.mem_cons.1 h2 with D|h2
   ·cases D;exact absurd (mem h1) z.1
   ·exact S9 z.2 h1 h2
 | [],_,_,_,_,h,_=>by cases h
theorem K5 {nx:Nat}:∀{l:Rl},aGg nx l=true->∀i j,(i,some j)∈l->i≠j->nx<=i/\nx<=j
 | (a,none)::l,h,i,j,hm,z=>by
  have hm:(i,some j)∈l:=(List.mem_cons.1 hm).resolve_left (fun e=>nomatch e)
  exact K5 (l:=l) h i j hm z
 | (a,some x)::l,h,i,j,hm,z=>by
  have h:((Nat.beq a x||(Nat.ble nx a&&Nat.ble nx x))&&aGg nx l)=true:=h
  rw[aB,eZ,aB]at h
  rcases List.mem_cons.1 hm with e|hm
  ·cases e
   rcases h.1 with D|⟨D,H⟩
   ·exact absurd (aS D) z
   ·exact⟨bY D,bY H⟩
  ·exact K5 h.2 i j hm z
 | [],_,_,_,hm,_=>by cases hm
section
variable {Z:gU} {ρl:Rl} {σ':cU}
theorem aD6:∀{es:List En} {x:EL es},es.all En.okB=true->aD5 Z ρl es=some x->SB Z (es.flatMap (En.src Z)) (DE es x)/\
  (Hy Z ρl σ'->(∀id b,(id,b)∈DE es x->σ' id=⟨0,some b⟩)->BS Z ρl σ' (es.flatMap (En.src Z)) (DE es x)/\∀t p,(t,p)∈aKV es x->SlC (ρf ρl) Z.s σ' (Z.t t) p):=by
 intro es
 induction es with
 | nil=>intro x _ h;exact⟨SB.nil,fun _ _=>⟨BS.nil,fun _ _ h=>by cases h⟩⟩
 | cons a l ih=>
  intro x z h
  rw[cI,aB]at z
  cases l with
  | nil=>
   have:=En.spec (σ':=σ') (e:=a) z.1 h
   simp only[dD,List.flatMap_nil,bO]
   exact this
  | cons b l=>
   unfold aD5 at h
   split at h
   ·rename_i x1 y1 W Y
    cases h
    have D:=En.spec (σ':=σ') z.1 W
    have q2:=ih z.2 Y
    rw[dD]
    refine⟨D.1.app q2.1,fun H I=> ?_⟩
    have M:=D.2 H fun i b hm=>I i b (bJ _ hm)
    have R:=q2.2 H fun i b hm=>I i b (bG _ hm)
    refine⟨M.1.app R.1,fun t p hm=> ?_⟩
    rcases List.mem_append.1 hm with hm|hm
    ·exact M.2 t p hm
    ·exact R.2 t p hm
   ·cases h
theorem U.ok_spec (H:Hy Z ρl σ') {u:U} (h:u.ok Z.s ρl p=true):SlC (ρf ρl) Z.s σ' p (u.pv σ'):=by
 unfold U.ok at h
 split at h
 ·exact .inl (.inl (.inl .nil))
 ·exact .inl (.inl (.inl .un))
 ·exact .inl (.inl (.inl (.v _ (.sc _) fun _=>rfl)))
 ·rename_i f caps f' ps
  rw[aB]at h
  obtain rfl:=aS h.1
  exact .inr (.inr ⟨_,_,_,rfl,rfl,DU H h.2⟩)
 ·rename_i id M ver off n
  split at h
  ·rename_i k l I e
   have z:σ' id=_:=H.b _ _ _ _ (eW I) (cG e)
   simp only[U.pv,z]
   exact .inl (.inl (.inl (.refF (cG e) .b (eW I) z)))
  ·rename_i k l I e
   have z:σ' id=_:=H.b _ _ _ _ (eW I) (cG e)
   simp only[U.pv,z]
   exact .inl (.inl (.inl (.refF (cG e) .d (eW I) z)))
  ·cases h
 ·rename_i id j M ver i j'
  simp only[aB]at h
  obtain⟨W,Y,D,R⟩:=h
  rw[aS W,aS Y]
  split at R
  ·rename_i cs e
   obtain⟨cs',z⟩:=H.b _ _ _ _ (eW D) (cG e)
   exact .inl (.inl (.inl (.ptrb (cG e) (eW D) z)))
  ·rename_i k l e
   have z:=H.b _ _ _ _ (eW D) (cG e)
   exact .inl (.inl (.inl (.ptrr (cG e) .b (eW D) z)))
  ·rename_i k l e
   have z:=H.b _ _ _ _ (eW D) (cG e)
   exact .inl (.inl (.inl (.ptrr (cG e) .d (eW D) z)))
  ·rename_i o e
   have z:=H.b _ _ _ _ (eW D) (cG e)
   exact .inl (.inl (.inl (.ptro (cG e) (eW D) z)))
  ·cases R
 ·cases h
theorem WY (H:Hy Z ρl σ'):∀{us:List (Nat×U)},aJ1 Z ρl us=true->∀t p,(t,p)∈aLu σ' us->SlC (ρf ρl) Z.s σ' (Z.t t) p
 | [],_,_,_,hm=>by cases hm
 | (z,u)::l,h,t,p,hm=>by
  unfold aJ1 at h
  rw[aB]at h
  rcases List.mem_cons.1 hm with e|hm
  ·cases e;exact U.ok_spec H h.1
  ·exact WY H h.2 t p hm
end
theorem lV.dec_nrm {sh:lV} {Z0:gU} {v:EL sh.es} (h:sh.dec nx Z0=some v):Nrm (nxB nx) (nxL nx) (ρf (sh.src (MO (G3 (sh.src Z0)) Z0))) (MO (G3 (sh.src Z0)) Z0) (sh.enc v):=by
 unfold lV.dec at h
 simp only at h
 generalize MO (G3 (sh.src Z0)) Z0=Z at h⊢
 split at h
 ·cases h
 rename_i v' hv
 split at h
 case h_2=>cases h
 cases h
 rename_i hc
 simp only[aB]at hc
 obtain⟨c1,c2,c3,c4,c5,c6,c7⟩:=hc
 have n2:=FI c2
 have n3:=FI c3
 have n4:=FI c4
 have I:∀id b,(id,b)∈DE sh.es v->(A3 (DE sh.es v)) id=⟨0,some b⟩:=fun id b hm=>by
  unfold A3;rw[xG n4 hm]
 have R:=(aD6 (σ':=A3 (DE sh.es v)) c1 hv).1
 have H:Hy Z (sh.src Z) (A3 (DE sh.es v)):=⟨fun id hs i e=>D1 hs i (iQ e),fun id z ver b W Y=>by
  obtain⟨b',M,q2⟩:=R id z ver b (iQ W) Y
  rw[I id b' M];exact q2⟩
 obtain⟨hbs,htm⟩:=(aD6 (σ':=A3 (DE sh.es v)) c1 hv).2 H I
 refine⟨fun i=> ?_,fun id w b e=> ?_,fun i j id W Y=>S9 n3 (iQ W) (iQ Y),fun j hj=> ?_,fun q hq=> ?_,fun i id e hne=>K5 c5 i id (iQ e) hne⟩
 ·show SlC _ _ _ _ (aLl _ i)
  unfold aLl
  split
  ·rename_i p hp
   rcases List.mem_append.1 (iQ hp)with hm|hm
   ·exact WY H c7 i p hm
   ·exact htm i p hm
  ·exact .inl (.inl (.inl (.dead _)))
 ·have e:A3 (DE sh.es v) id=⟨w,some b⟩:=e
  unfold A3 at e
  split at e
  ·rename_i b' hb
   cases e
   refine⟨rfl,?_⟩
   rcases hbs id b (iQ hb)with⟨z,v0,b0,M,q2,q3⟩ |⟨M,q2⟩
   ·exact .inl ⟨z,v0,b0,xG n2 M,q2,q3⟩
   ·exact .inr ⟨xG n2 M,q2⟩
  ·cases e
 ·have c6:(((List.range (nxB nx)).all fun j=>eqN (jU j (sh.src Z)) j&&YB (DE sh.es v) j)&&((List.range (nxL nx)).all fun q=>eqN (jU (50+q) (sh.src Z)) (50+q)&&aEd (DE sh.es v) (50+q)))=true:=c6
  rw[aB]at c6
  have:=List.all_eq_true.1 c6.1 j (List.mem_range.2 hj)
  rw[aB]at this
  refine⟨eW this.1,?_⟩
  have D:=this.2
  unfold YB at D
  split at D
  ·rename_i cs e
   exact⟨cs,by show(A3 _ j).blk=_;unfold A3;rw[e]⟩
  ·cases D
 ·have c6:(((List.range (nxB nx)).all fun j=>eqN (jU j (sh.src Z)) j&&YB (DE sh.es v) j)&&((List.range (nxL nx)).all fun q=>eqN (jU (50+q) (sh.src Z)) (50+q)&&aEd (DE sh.es v) (50+q)))=true:=c6
  rw[aB]at c6
  have:=List.all_eq_true.1 c6.2 q (List.mem_range.2 hq)
  rw[aB]at this
  refine⟨eW this.1,?_⟩
  have D:=this.2
  unfold aEd at D
  split at D
  ·rename_i b e
   exact⟨b,by show(A3 _ (50+q)).blk=_;unfold A3;rw[e]⟩
  ·cases D
theorem aJ0 {t:Nat->PV} {s:cU} {id:Nat}:Gh X nt ⟨t,s⟩ ⟨t,aLt s id⟩:=fun a w e=>by
 unfold aLt
 split
 ·rename_i ver k l i cs D
  split
  ·rename_i y A H
   obtain⟨I,M,J,N,z⟩:=e
   obtain⟨N',st,_⟩:=KX (t:=t) z D H
   exact⟨I,M,J,N',st⟩
  ·exact e
 ·exact e
theorem aB2 {X:mM} {nt:Nat} {t:Nat->PV}:∀{ids:List Nat} {s:cU},Gh X nt ⟨t,s⟩ ⟨t,aIz ids s⟩
 | [],s=>fun a w e=>e
 | id::l,s=>fun a w e=>aB2 (ids:=l) a w (aJ0 a w e)
theorem aIA (ids:List Nat) (Z:gU):Gh X nt Z (MO ids Z):=fun a w e=>aB2 (ids:=ids) (t:=Z.t) a w e
def XOk (nx:Nat) (X:mM):Prop:=X.ext.length=nxB nx/\∀q u n,X.rx q=some (u,n)->q<nxL nx
theorem lV.dec_gh (e:XOk nx X) {sh:lV} {v:EL sh.es} (h:sh.dec nx Z=some v):Gh X nt Z (sh.enc v):=fun a w z=>(lV.dec_nrm h).gh e.1 e.2 a w (aIA _ _ a w z)
open Go.RowKit
def gd {J:Type} (p:Prop) [Decidable p] (x:Option J):Option J:=if p then x else none
theorem E9 {J:Type} {p:Prop} [Decidable p] {x:Option J} {r:J} (h:gd p x=some r):p/\x=some r:=by
 unfold gd at h
 split at h
 ·rename_i e;exact⟨e,h⟩
 ·cases h
def bd {α J:Type} (o:Option α) (f:α->Option J):Option J:=o.bind f
def br {α:Type} (b:Bool) (x y:α):α:=if b then x else y
noncomputable def aAx {α J:Type} (l:List α) (x y:Option J):Option J:=br l.isEmpty (@ite (Option J) (x=y) (Classical.propDecidable (x=y)) y none) y
def aL {V O:Type} (B:V->Option (V⊕O)):Nat->V->Option O
 | 0,_=>none
 | n+1,v=>match B v with
  | none=>none
  | some (.inl v')=>aL B n v'
  | some (.inr o)=>some o
def lU {V R:Type} (B:(V->Option R)->V->Option R):Nat->V->Option R
 | 0,_=>none
 | n+1,v=>B (lU B n) v
def jn {V J:Type} (o:Option (V⊕J)) (f:V->Option J):Option J:=bd o fun s=>match s with
 | .inl v=>f v
 | .inr r=>some r
def UU (id:Nat) (k:K) (l:List (ty k)):PV:=match dpI id k with
 | true=> .drow k l
 | false=> .row true k l
def aKh (own:Option Nat) (lf:d4):PV:=match own,lf with
 | some id,.nest k l=>UU id k l
 | _,lf=>qK lf
def aJx (js:List (Nat×Nat)):Nat->List d4->List PV
 | _,[]=> []
 | j,lf::l=>aKh (jU j js) lf::aJx js (j+1) l
def Sh.encC:(sh:Sh)->sh.V->PV
 | .own k id,l=>UU id k l
 | .st k js,x=> .agg (aJx js 0 (aG (k:=k) x))
 | sh,x=>sh.enc x
def yN:(l:List Sh)->PL l->List PV
 | [],_=> []
 | [a],v=> [a.encC v]
 | a::b::l,v=>a.encC v.1::yN (b::l) v.2
inductive Ro where
 | one (sh:Sh)|tup (l:List Sh)
abbrev Ro.V:Ro->Type
 | .one sh=>sh.V
 | .tup l=>PL l
def aKo (own:Option Nat) (k:K):Bool:=match own with
 | none=>true
 | some id=>match dpI id k with
  | true=>flat k
  | false=>true
def aA4 (own:Option Nat):PV->Option aA
 | .v x=>match own with
  | some _=>none
  | none=>some (.sc x)
 | .nil=>some .nl
 | .row true k l=>match aKo own k with
  | true=>some (.nest k l)
  | false=>none
 | .drow k l=>some (.nest k l)
 | .row false k l=>match own with
  | some _=>none
  | none=>some (.nest k l)
 | _=>none
def YD (js:List (Nat×Nat)):Nat->List PV->Option (List aA)
 | _,[]=>some []
 | j,p::ps=>match aA4 (jU j js) p,YD js (j+1) ps with
  | some a,some l=>some (a::l)
  | _,_=>none
def aIT:PV->PV->Bool
 | .ptr a b c d,.ptr a' b' c' d'=>Nat.beq a a'&&(Nat.beq b b'&&(Nat.beq c c'&&Nat.beq d d'))
 | .nil,.nil=>true
 | .v (.pointer none),.v (.pointer none)=>true
 | _,_=>false
def aG6:List PV->List PV->Bool
 | [],[]=>true
 | p::ps,q::qs=>aIT p q&&aG6 ps qs
 | _,_=>false
def Sh.decC:(sh:Sh)->PV->Option sh.V
 | .I k,.v (.int k' n)=>if k'=k then some n else none
 | .S,.v (.string x)=>some x
 | .B,.v (.bool x)=>some x
 | .row k,p=>match aA4 none p with
  | some x=>x.list k
  | none=>none
 | .own k id,p=>match aA4 (some id) p with
  | some x=>x.list k
  | none=>none
 | .st k js,.agg cs=>match YD js 0 cs with
  | some l=>nJ k l
  | none=>none
 | .eptr k j,.eptr _ l i j'=>match Nat.beq j' j,vX k l with
  | true,some l=>some (l,i)
  | _,_=>none
 | .cfn f caps,.fn f' ps=>match Nat.beq f' f&&aG6 ps (aAt caps)with
  | true=>some ()
  | false=>none
 | _,_=>none
def SP:(l:List Sh)->List PV->Option (PL l)
 | [],[]=>some ()
 | [a],[p]=>a.decC p
 | a::b::l,p::ps=>match a.decC p,SP (b::l) ps with
  | some x,some y=>some (x,y)
  | _,_=>none
 | _,_=>none
def eqC:PV->PV->Bool
 | .fn f l,.fn g m=>Nat.beq f g&&aG6 l m
 | p,q=>aIT p q
def MJ:List (Option PV)->List PV->Option (List PV)
 | [],[]=>some []
 | none::ps,p::l=>match MJ ps l with
  | some ds=>some (p::ds)
  | none=>none
 | some c::ps,p::l=>match eqC p c with
  | true=>MJ ps l
  | false=>none
 | _,_=>none
def tO:List (Option PV)->List PV->List PV×List PV
 | [],l=>([],l)
 | none::ps,p::l=>(p::(tO ps l).1,(tO ps l).2)
 | none::ps,[]=>(.dead::(tO ps []).1,(tO ps []).2)
 | some c::ps,l=>(c::(tO ps l).1,(tO ps l).2)
def xC:PV->List PV
 | .agg cs=>cs
 | p=> [p]
def isAgg:PV->Bool
 | .agg _=>true
 | _=>false
def unX:Sh->List PV->Option PV
 | .st _ _,cs=>some (.agg cs)
 | _,[p]=>match isAgg p with
  | true=>none
  | false=>some p
 | _,_=>none
def aJZ:List Sh->List (List PV)->Option (List PV)
 | [],[]=>some []
 | sh::l,cs::xs=>match unX sh cs,aJZ l xs with
  | some p,some ps=>some (p::ps)
  | _,_=>none
 | _,_=>none
def Ro.l:Ro->List Sh
 | .one sh=> [sh]
 | .tup l=>l
def Ro.encL:(o:Ro)->o.V->List PV
 | .one sh,x=> [sh.encC x]
 | .tup l,x=>yN l x
def Ro.decL:(o:Ro)->List PV->Option o.V
 | .one sh,[p]=>sh.decC p
 | .one _,_=>none
 | .tup l,ps=>SP l ps
structure wX where
 f:FuncId
 pat:List (Option PV)
 ins:List Sh
 nx:Nat
 out:Ro
 p:PL ins->Option out.V
def wX.args (o:wX) (v:PL o.ins):List PV:=(tO o.pat (yN o.ins v)).1
def wX.exts (o:wX) (v:PL o.ins):List (List PV):=(tO o.pat (yN o.ins v)).2.map xC
def lnQ (nx:Nat):Bool:=Nat.ble 100 nx
def wX.nr (o:wX):Nat:=o.out.l.length-(nxB o.nx+nxL o.nx)
def wX.res (o:wX) (r:o.out.V):List PV:=(o.out.encL r).take o.nr
def gbE (ln:Bool) (es:List PV):List PV:=match ln with
 | true=>es
 | false=> []
def exE (ln:Bool) (es:List PV):List (List PV):=match ln with
 | true=> []
 | false=>es.map xC
def wX.gbs (o:wX) (r:o.out.V):List PV:=gbE (lnQ o.nx) ((o.out.encL r).drop o.nr)
def wX.back (o:wX) (r:o.out.V):List (List PV):=exE (lnQ o.nx) ((o.out.encL r).drop o.nr)
def wX.ret (o:wX) (r:o.out.V):PV:=aMp (lnQ o.nx) (aBg (o.res r)) (o.gbs r)
def aJv:List PV->List PV->Bool
 | [],[]=>true
 | p::ps,q::qs=>(cJ p==cJ q)&&aJv ps qs
 | _,_=>false
def aJu:PV->PV->Bool
 | .agg cs,.agg ds=>aJv cs ds
 | .agg _,_=>false
 | _,.agg _=>false
 | p,q=>cJ p==cJ q
def aJt:List PV->List PV->Bool
 | [],[]=>true
 | p::ps,q::qs=>aJu p q&&aJt ps qs
 | _,_=>false
def aLf (nx:Nat) (xs bs:List PV):Bool:=match lnQ nx with
 | true=>aJt xs bs
 | false=>true
def aBk {J:Type}:List wX->FuncId->List PV->List (List PV)->(PV->List (List PV)->Option J)->Option J
 | [],_,_,_,_=>none
 | o::l,f,args,exts,K=>match Nat.beq o.f f with
  | true=>(match MJ o.pat args with
   | some ds=>(match aJZ (o.ins.drop ds.length) exts with
    | some xs=>(match SP o.ins (ds++xs)with
     | some v=>(match aLf o.nx args (o.args v)with
     | true=>bd (o.p v) fun r=>K (o.ret r) (o.back r)
     | false=>aBk l f args exts K)
     | none=>aBk l f args exts K)
    | none=>aBk l f args exts K)
   | none=>aBk l f args exts K)
  | false=>aBk l f args exts K
section
variable (C:List wX)
def eM.ev {α J:Type}:eM α->cU->(α->cU->List Nat->List Nat->Option J)->Option J
 | .ret a,s,K=>K a s [] []
 | .fail,_,_=>none
 | .rd id k,s,K=>(k (s id)).ev s fun a s' r w=>K a s' (id::r) w
 | .wr id e k,s,K=>k.ev (eN s id e) fun a s' r w=>K a s' r (id::w)
 | .guard p _ k,s,K=>gd p (k.ev s K)
 | .opt o k,s,K=>bd o fun x=>(k x).ev s K
 | .call f args exts k,s,K=>aBk C f args exts fun v ys=>(k v ys).ev s K
 | .ite b x y,s,K=>br b (x.ev s K) (y.ev s K)
def knO (kn:List (Nat×Bool)):Operand->Option Bool
 | .const (.bool b)=>some b
 | .tmp d=>jU d kn
 | _=>none
def knP (kn:List (Nat×Bool)):Op->Option Bool
 | .move x=>knO kn x
 | .assign x=>knO kn x
 | .pick c x y=>match knO kn c with
  | some true=>knO kn x
  | some false=>knO kn y
  | none=>none
 | _=>none
def knS (kn:List (Nat×Bool)) (o:Oper):List (Nat×Bool):=match o.dst,knP kn o.op with
 | some d,some b=>(d,b)::kn
 | _,_=>kn
def rev {J:Type} (ops:Array Oper):List Oper->Nat->List (Nat×Bool)->gU->(List Ft->gU->Option J)->Option J
 | [],_,_,Z,K=>K [] Z
 | o::rest,i,kn,Z,K=>
  let step:=fun(t:Nat->PV) (kn:List (Nat×Bool))=>(eop o t).ev C Z.s fun v s' r w=>rev ops rest (i+1) (knS kn o) ⟨eJ o.dst v t,s'⟩ fun l Z'=>K ((i,r,w)::l) Z'
  let skip:=fun(t:Nat->PV) (kn:List (Nat×Bool))=>rev ops rest (i+1) kn ⟨eJ o.dst .un t,Z.s⟩ fun l Z'=>K ((i,[],[])::l) Z'
  match o.guard with
  | none=>step Z.t kn
  | some (g,want)=>match(ops[g]?).bind (·.dst)with
   | none=>skip Z.t kn
   | some d=>match Z.t d with
    | .v (.bool b)=>(match jU d kn with
     | some _=>(match b,want with
      | true,true=>step Z.t kn
      | false,false=>step Z.t kn
      | true,false=>skip Z.t kn
      | false,true=>skip Z.t kn)
     | none=>(match want with
      | true=>br b (step (eN Z.t d (.v (.bool true))) ((d,true)::kn)) (skip (eN Z.t d (.v (.bool false))) ((d,false)::kn))
      | false=>br b (skip (eN Z.t d (.v (.bool true))) ((d,true)::kn)) (step (eN Z.t d (.v (.bool false))) ((d,false)::kn))))
    | .un=>skip Z.t kn
    | _=>none
def key:Code->Option Nat
 | .region id _ _=>some id
 | .seq a b=>match key a with
  | some k=>some k
  | none=>key b
 | .cond _ a b=>match key a with
  | some k=>some k
  | none=>key b
 | .block _ c=>key c
 | .loop c=>key c
 | _=>none
def aKn {α:Type} (k:Option Nat) (l:List (Nat×α)):Option α:=match k with
 | some k=>jU k l
 | none=>none
structure Tab where
 r:List (Nat×lV)
 s:List (Nat×Bool×lV)
 l:List (Nat×Bool×lV×Nat×lV)
def aDc (o:Oper):Option (Operand×Nat):=match o.op,o.guard,o.dst with
 | .binOp .eql t x (.const (.slice none 0 0)) _,none,some d=>match F3 t with
  | some _=>some (x,d)
  | none=>none
 | _,_,_=>none
def spl:List Oper->Option (List Oper×Oper)
 | []=>none
 | [o]=>some ([],o)
 | o::o2::l=>match spl (o2::l)with
  | some (i,z)=>some (o::i,z)
  | none=>none
def YI (draw:Bool) (l:List Oper):Option (List Oper×Operand×Nat):=match draw,spl l with
 | false,some (i,o)=>match aDc o with
  | some (x,d)=>some (i,x,d)
  | none=>none
 | _,_=>none
variable (T:Tab) (nx fuel:Nat)
noncomputable def XG:Code->{J:Type}->gU->(Exit->gU->Option J)->Option J
 | .skip,_,Z,K=>K .normal Z
 | .label _,_,Z,K=>K .normal Z
 | .exit id,_,Z,K=>K (.exit id) Z
 | .seq x y,J,Z,K=>match aKn (key y) T.s with
  | none=>XG x Z fun e Z'=>match e with
   | .normal=>XG y Z' K
   | e=>K e Z'
  | some (false,sh)=>bd (XG x (J:=EL sh.es) Z fun e Z'=>match e with
   | .normal=>sh.dec nx Z'
   | _=>none) fun v=>XG y (sh.enc v) K
  | some (true,sh)=>jn (XG x (J:=EL sh.es⊕J) Z fun e Z'=>match e with
   | .normal=>(sh.dec nx Z').map .inl
   | e=>(K e Z').map .inr) fun v=>XG y (sh.enc v) K
 | .cond c x y,_,Z,K=>match opd Z.t c with
  | .v (.bool b)=>br b (XG x Z K) (XG y Z K)
  | _=>none
 | .block id c,_,Z,K=>XG c Z fun e Z'=>match e with
  | .exit id'=>(match Nat.beq id' id with
   | true=>K .normal Z'
   | false=>K (.exit id') Z')
  | e=>K e Z'
 | .loop c,J,Z,K=>match aKn (key c) T.l with
  | none=>none
  | some (false,si,id,so)=>(match si.dec nx Z with
   | none=>none
   | some v=>bd (aL (fun v=>XG c (J:=EL si.es⊕EL so.es) (si.enc v) fun e Z'=>match e with
    | .normal=>(si.dec nx Z').map .inl
    | .exit id'=>(match Nat.beq id' id with
     | true=>(so.dec nx Z').map .inr
     | false=>none)
    | _=>none) fuel v) fun o=>K (.exit id) (so.enc o))
  | some (true,si,id,so)=>(match si.dec nx Z with
   | none=>none
   | some v=>jn (aL (fun v=>XG c (J:=EL si.es⊕(EL so.es⊕J)) (si.enc v) fun e Z'=>match e with
    | .normal=>(si.dec nx Z').map .inl
    | .exit id'=>(match Nat.beq id' id with
     | true=>(so.dec nx Z').map fun o=> .inr (.inl o)
     | false=>(K (.exit id') Z').map fun r=> .inr (.inr r))
    | e=>(K e Z').map fun r=> .inr (.inr r)) fuel v) fun o=>K (.exit id) (so.enc o))
 | .region id ops draw,_,Z,K=>match YI draw ops.toList with
  | some (i,x,d)=>rev C ops i 0 [] Z fun _ Z'=>(match opd Z'.t x with
   | .row _ k l=>aAx l (K .normal ⟨eJ (some d) (.v (.bool true)) Z'.t,Z'.s⟩) (K .normal ⟨eJ (some d) (.v (.bool false)) Z'.t,Z'.s⟩)
   | .nil=>K .normal ⟨eJ (some d) (.v (.bool true)) Z'.t,Z'.s⟩
   | _=>none)
  | none=>match jU id T.r with
  | none=>rev C ops ops.toList 0 [] Z fun ft Z'=>match draw with
   | false=>K .normal Z'
   | true=>(match BI ops ft with
    | true=>K .normal Z'
    | false=>none)
  | some sh=>bd (rev (J:=EL sh.es) C ops ops.toList 0 [] Z fun ft Z'=>match draw with
   | false=>sh.dec nx Z'
   | true=>(match BI ops ft with
    | true=>sh.dec nx Z'
    | false=>none)) fun v=>K .normal (sh.enc v)
 | .ret,_,Z,K=>K .ret Z
 | _,_,_,_=>none
def unR:List Sh->Nat->List PV->Option (List PV)
 | [],_,[]=>some []
 | _::l,n+1,q::qs=>match unR l n qs with
  | some r=>some (q::r)
  | none=>none
 | sh::l,0,q::qs=>match q with
  | .agg cs=>(match unX sh cs,unR l 0 qs with
   | some p,some r=>some (p::r)
   | _,_=>none)
  | _=>none
 | _,_,_=>none
def unE (ln:Bool) (l:List Sh):List PV->Option (List PV)
 | .agg bs::qs=>(match ln with
  | true=>(match qs with
   | []=>(match bs.any isAgg with
    | false=>some bs
    | true=>none)
   | _::_=>none)
  | false=>(match bs with
   | []=>unR l 0 qs
   | _::_=>none))
 | _=>none
def unQ (ln:Bool):List Sh->Nat->List PV->Option (List PV)
 | l,0,qs=>unE ln l qs
 | _::l,n+1,q::qs=>(match unQ ln l n qs with
  | some r=>some (q::r)
  | none=>none)
 | _,_,_=>none
def aLa (Z:gU):List ResultVar->List Nat
 | []=> []
 | .tmp t::l=>KN [Z.t t]++aLa Z l
 | .cell p _::l=>(match Z.t p with
  | .ptr id _ _ _=>uC (aER Z id)
  | _=> [])++aLa Z l
def aMx (Z:gU):Nat->List Nat
 | 0=> []
 | n+1=>aMx Z n++uC (aER Z n)
def aKm:Nat->List Nat
 | 0=> []
 | n+1=>aKm n++ [50+n]
def aMy (nx:Nat) (rs:List ResultVar) (Z:gU):gU:=MO (aLa Z rs++(aMx Z (nxB nx)++aKm (nxL nx))) Z
def aK2 (nt nx:Nat) (rs:List ResultVar) (nxe:Nat) (ls:List PV) (out:Ro) (Z:gU):Option out.V:=match aHW nt Z rs with
 | none=>none
 | some vs=>match aE8 Z 0 nxe with
  | none=>none
  | some cs=>match tH Z.s (vs++ .agg ls::cs.map .agg)with
   | none=>none
   | some (qs,A,B)=>match YL A&&I9 A B with
    | true=>(match unQ (lnQ nx) out.l (out.l.length-(nxB nx+nxL nx)) qs with
     | some rs=>out.decL rs
     | none=>none)
    | false=>none
noncomputable def fev (fn:Func) (pat:List (Option PV)) (ins:List Sh) (out:Ro) (v:PL ins):Option out.V:=match fn.body with
 | none=>none
 | some c=>XG C T nx fuel c (aA0 (lnQ nx) (tO pat (yN ins v)).1 ((tO pat (yN ins v)).2.map xC)) fun e Z=>match e with
  | .goto _=>none
  | .exit _=>none
  | .panic _=>none
  | .outgrown=>none
  | _=>aK2 fn.ntmps nx fn.results.toList ((tO pat (yN ins v)).2.map xC).length (M8 (lnQ nx) (tO pat (yN ins v)).1) out (aMy nx fn.results.toList Z)
end
open Go.RowKit
theorem QH {own:Option Nat} {x:aA} {lf:d4} (h:aA4 own p=some x) (z:oL x lf):W4 p (aKh own lf):=by
 unfold aA4 at h
 split at h
 ·cases own with
  | some id=>cases h
  | none=>cases h;exact .inr (.inr (.inr (.inl ⟨_,lf,rfl,rfl,z⟩)))
 ·cases h;obtain⟨k,rfl⟩:=z
  cases own with
  | some id=>
   show W4 .nil (UU id k [])
   unfold UU
   split
   ·exact .inr (.inr (.inr (.inr (.nil k))))
   ·exact .inr (.inl ⟨rfl,true,k,rfl⟩)
  | none=>exact .inr (.inl ⟨rfl,false,k,rfl⟩)
 ·rename_i k l
  split at h
  case h_2=>cases h
  rename_i D
  cases h;have e:lf=_:=z;subst e
  cases own with
  | some id=>
   show W4 (.row true k l) (UU id k l)
   unfold UU
   simp only[aKo]at D
   split
   ·rename_i H
    rw[H]at D
    exact .inr (.inr (.inr (.inr (.flat k l D))))
   ·exact .inl rfl
  | none=>exact .inr (.inr (.inl ⟨_,_,rfl,rfl⟩))
 ·rename_i k l
  cases h;have e:lf=_:=z;subst e
  cases own with
  | some id=>
   show W4 (.drow k l) (UU id k l)
   unfold UU
   split
   ·exact .inl rfl
   ·exact .inr (.inr (.inr (.inr (.own k l))))
  | none=>exact .inr (.inr (.inr (.inr (.row k l))))
 ·cases own with
  | some id=>cases h
  | none=>cases h;have e:lf=_:=z;subst e;exact .inl rfl
 ·cases h
theorem WA {js:List (Nat×Nat)}:∀{ps:List PV} {ls:List aA} {lfs:List d4} {j:Nat},YD js j ps=some ls->bC oL ls lfs->bC W4 ps (aJx js j lfs)
 | [],ls,lfs,j,h,e=>by
  cases h
  cases lfs with
  | nil=>trivial
  | cons _ _=>exact e.elim
 | p::ps,ls,lfs,j,h,e=>by
  unfold YD at h
  split at h
  ·rename_i a l z D
   cases h
   cases lfs with
   | nil=>exact e.elim
   | cons lf lfs=>
    exact⟨QH z e.1,WA D e.2⟩
  ·cases h
theorem VY (h:aIT p q=true):p=q:=by
 unfold aIT at h
 split at h
 ·simp only[aB]at h
  obtain⟨e,z,D,H⟩:=h
  rw[aS e,aS z,aS D,aS H]
 ·rfl
 ·rfl
 ·cases h
theorem LD:∀{l m:List PV},aG6 l m=true->l=m
 | [],[],_=>rfl
 | p::ps,q::qs,h=>by
  unfold aG6 at h
  rw[aB]at h
  rw[VY h.1,LD h.2]
 | [],_::_,h=>by cases h
 | _::_,[],h=>by cases h
theorem Sh.decC_wk:∀{sh:Sh} {p:PV} {x:sh.V},sh.decC p=some x->OT p (sh.encC x):=by
 intro sh p x h
 unfold Sh.decC at h
 split at h
 ·rename_i k k' n
  split at h
  ·rename_i e;subst e;cases h;exact .inl (.inl rfl)
  ·cases h
 ·cases h;exact .inl (.inl rfl)
 ·cases h;exact .inl (.inl rfl)
 ·split at h
  ·rename_i y z
   exact .inl (QH z (aA.list_spec h))
  ·cases h
 ·split at h
  ·rename_i y z
   exact .inl (QH z (aA.list_spec h))
  ·cases h
 ·split at h
  ·rename_i l D
   exact .inr ⟨_,_,rfl,rfl,WA D (iX h)⟩
  ·cases h
 ·split at h
  ·rename_i l H I
   cases h
   obtain⟨rfl,rfl⟩:=hU I
   obtain rfl:=aS H
   exact .inl (.inl rfl)
  ·cases h
 ·rename_i f caps M ps
  split at h
  ·rename_i e
   cases h
   rw[aB]at e
   obtain rfl:=aS e.1
   obtain rfl:=LD e.2
   exact .inl (.inl rfl)
  ·cases h
 ·cases h
theorem WK:∀{l:List Sh} {ps:List PV} {x:PL l},SP l ps=some x->bC OT ps (yN l x):=by
 intro l
 induction l with
 | nil=>
  intro ps x h
  cases ps with
  | nil=>trivial
  | cons _ _=>cases h
 | cons a l ih=>
  intro ps x h
  cases l with
  | nil=>
   match ps,h with
   | [p],h=>exact⟨Sh.decC_wk (sh:=a) h,trivial⟩
   | [],h=>cases h
   | _::_::_,h=>cases h
  | cons b l=>
   match ps,h with
   | p::ps,h=>
    unfold SP at h
    split at h
    ·rename_i D H e z
     cases h
     exact⟨Sh.decC_wk e,ih z⟩
    ·cases h
   | [],h=>cases h
theorem Ro.decL_wk {o:Ro} {r:o.V} (h:o.decL qs=some r):bC OT qs (o.encL r):=by
 unfold Ro.decL at h
 split at h
 ·exact⟨Sh.decC_wk h,trivial⟩
 ·cases h
 ·exact WK h
theorem aG7 (h:eqC p q=true):p=q:=by
 unfold eqC at h
 split at h
 ·rw[aB]at h
  rw[aS h.1,LD h.2]
 ·exact VY h
theorem aIE (p:PV):OT p p:= .inl (.inl rfl)
theorem QE:∀{pat:List (Option PV)} {args ds zs es:List PV},MJ pat args=some ds->bC OT (ds++zs) es->bC OT args (tO pat es).1/\bC OT zs (tO pat es).2
 | [],[],ds,zs,es,h,z=>by cases h;exact⟨trivial,z⟩
 | [],_::_,_,_,_,h,_=>by cases h
 | none::ps,[],_,_,_,h,_=>by cases h
 | some c::ps,[],_,_,_,h,_=>by cases h
 | none::ps,p::l,ds,zs,es,h,z=>by
  unfold MJ at h
  split at h
  ·rename_i ds' D
   cases h
   cases es with
   | nil=>exact z.elim
   | cons e es=>
    have:=QE D z.2
    exact⟨⟨z.1,this.1⟩,this.2⟩
  ·cases h
 | some c::ps,p::l,ds,zs,es,h,z=>by
  unfold MJ at h
  split at h
  ·rename_i H
   obtain rfl:=aG7 H
   have:=QE h z
   have e:tO (some p::ps) es=(p::(tO ps es).1,(tO ps es).2):=by cases es<;>rfl
   rw[e]
   exact⟨⟨aIE _,this.1⟩,this.2⟩
  ·cases h
theorem aHt (h:isAgg p=false):∀cs,p≠ .agg cs:=fun cs e=>by rw[e]at h;cases h
theorem aID (h:isAgg p=false) (z:OT p q):W4 p q:=by
 rcases z with D|⟨cs,ds,e,_,_⟩
 ·exact D
 ·exact absurd e (aHt h cs)
theorem aIF (p:PV):W4 p p:= .inl rfl
theorem VA {R:PV->PV->Prop} (h:∀p,R p p):∀{l:List PV},bC R l l
 | []=>trivial
 | p::l=>⟨h p,VA h⟩
theorem aJ6 {cs:List PV} (h:W4 (.agg cs) q):q= .agg cs:=by
 rcases h with h|⟨h,_⟩ |⟨_,_,h,_⟩ |⟨_,_,h,_⟩ | h
 ·exact h.symm
 ·cases h
 ·cases h
 ·cases h
 ·cases h
theorem aJ4 {cs:List PV} (h:OT (.agg cs) q):∃ds,q= .agg ds/\bC W4 cs ds:=by
 rcases h with h|⟨cs',ds,e,h,z⟩
 ·exact⟨cs,aJ6 h,VA aIF⟩
 ·cases e;exact⟨ds,h,z⟩
theorem aLB (h:isAgg p=false) (e:W4 p q):isAgg q=false:=by
 rcases e with h'|⟨_,_,_,h'⟩ |⟨_,_,_,h'⟩ |⟨_,lf,_,h',_⟩ | h'
 ·rw[<-h'];exact h
 ·rw[h'];rfl
 ·rw[h'];rfl
 ·rw[h'];cases lf<;>rfl
 ·cases h'<;>rfl
theorem aMT (h:isAgg q=false):xC q=[q]:=by
 cases q<;>first|rfl|cases h
theorem aIx {sh:Sh} {cs:List PV} (h:unX sh cs=some p) (z:OT p q):bC W4 cs (xC q):=by
 unfold unX at h
 split at h
 ·cases h
  obtain⟨ds,rfl,H⟩:=aJ4 z
  exact H
 ·split at h
  ·cases h
  ·rename_i e
   cases h
   have e:isAgg p=false:=by simpa using e
   have D:=aID e z
   rw[aMT (aLB e D)]
   exact⟨D,trivial⟩
 ·cases h
theorem aEH:∀{shs:List Sh} {xs:List (List PV)} {ps qs:List PV},aJZ shs xs=some ps->bC OT ps qs->bC (bC W4) xs (qs.map xC)
 | [],[],ps,qs,h,e=>by
  cases h
  cases qs with
  | nil=>trivial
  | cons _ _=>exact e.elim
 | [],_::_,_,_,h,_=>by cases h
 | _::_,[],_,_,h,_=>by cases h
 | sh::l,cs::xs,ps,qs,h,e=>by
  unfold aJZ at h
  split at h
  ·rename_i p ps' z D
   cases h
   cases qs with
   | nil=>exact e.elim
   | cons q qs=>exact⟨aIx z e.1,aEH D e.2⟩
  ·cases h
theorem aDK:∀{shs:List Sh} {n:Nat} {qs rs es:List PV},unR shs n qs=some rs->bC OT rs es->bC OT qs (es.take n++((es.drop n).map xC).map .agg)
 | [],n,[],rs,es,h,z=>by
  cases h
  cases es with
  | nil=>simp;trivial
  | cons _ _=>exact z.elim
 | [],_,_::_,_,_,h,_=>by cases h
 | _::_,0,[],_,_,h,_=>by cases h
 | _::_,_+1,[],_,_,h,_=>by cases h
 | sh::l,n+1,q::qs,rs,es,h,z=>by
  unfold unR at h
  split at h
  ·rename_i r D
   cases h
   cases es with
   | nil=>exact z.elim
   | cons e es=>exact⟨z.1,aDK D z.2⟩
  ·cases h
 | sh::l,0,q::qs,rs,es,h,z=>by
  unfold unR at h
  split at h
  ·rename_i cs
   split at h
   ·rename_i p r D H
    cases h
    cases es with
    | nil=>exact z.elim
    | cons e es=>
     have ih:=aDK H z.2
     exact⟨.inr ⟨_,_,rfl,rfl,aIx D z.1⟩,ih⟩
   ·cases h
  ·cases h
theorem aJY {shs:List Sh} {rs:List PV} (h:unR shs 0 qs=some rs) (e:bC OT rs es):bC OT qs ((es.map xC).map .agg):=aDK (n:=0) h e
theorem aIC {bs:List PV} (h:bs.any isAgg=false) (z:bC OT bs es):bC W4 bs es:=by
 induction bs generalizing es with
 | nil=>cases es with
  | nil=>trivial
  | cons _ _=>exact z.elim
 | cons b bs ih=>cases es with
  | nil=>exact z.elim
  | cons e es=>
   rw[o4,bL]at h
   exact⟨aID h.1 z.1,ih h.2 z.2⟩
theorem aLr {ln:Bool} {l:List Sh} {rs:List PV} (h:unE ln l qs=some rs) (D:bC OT rs es):bC OT qs (.agg (gbE ln es)::(exE ln es).map .agg):=by
 match qs,h with
 | .agg bs::e,h=>
  cases ln with
  | true=>
   match e,h with
   | [],h=>
    have h:(match bs.any isAgg with|false=>some bs|true=>none)=some rs:=h
    cases z:bs.any isAgg with
    | true=>rw[z]at h;cases h
    | false=>
     rw[z]at h
     cases h
     exact⟨.inr ⟨_,_,rfl,rfl,aIC z D⟩,trivial⟩
   | _::_,h=>cases h
  | false=>
   match bs,h with
   | [],h=>exact⟨.inr ⟨[],[],rfl,rfl,trivial⟩,aJY h D⟩
   | _::_,h=>cases h
theorem aIw {ln:Bool}:∀{shs:List Sh} {n:Nat} {qs rs es:List PV},unQ ln shs n qs=some rs->bC OT rs es->bC OT qs (es.take n++ .agg (gbE ln (es.drop n))::(exE ln (es.drop n)).map .agg)
 | shs,0,qs,rs,es,h,z=>by
  have h:unE ln shs qs=some rs:=by cases shs<;>exact h
  exact aLr h z
 | [],n+1,qs,rs,es,h,z=>by cases h
 | _::_,n+1,[],rs,es,h,z=>by cases h
 | _::l,n+1,q::qs,rs,es,h,z=>by
  unfold unQ at h
  split at h
  ·rename_i r D
   cases h
   cases es with
   | nil=>exact z.elim
   | cons e es=>exact⟨z.1,aIw D z.2⟩
  ·cases h
theorem WS:∀{cs ds:List PV},aJv cs ds=true->cs.map cJ=ds.map cJ
 | [],[],_=>rfl
 | c::cs,d::ds,h=>by
  have h:((cJ c==cJ d)&&aJv cs ds)=true:=h
  rw[aB]at h
  rw[bR,bR,WS h.2,eq_of_beq h.1]
 | [],_::_,h=>by cases h
 | _::_,[],h=>by cases h
theorem aFM (h:aJu p q=true):KR p=KR q:=by
 by_cases e:∃cs,p= .agg cs
 ·obtain⟨cs,rfl⟩:=e
  by_cases z:∃ds,q= .agg ds
  ·obtain⟨ds,rfl⟩:=z
   show(true,_)=(true,_)
   rw[WS h]
  ·exfalso
   cases q<;>first|(cases h;done)|exact z ⟨_,rfl⟩
 ·have D:KR p=(false,[cJ p]):=by cases p<;>first|rfl|exact absurd ⟨_,rfl⟩ e
  have z:¬∃ds,q= .agg ds:=by
   rintro⟨ds,rfl⟩
   cases p<;>first|(cases h;done)|exact e ⟨_,rfl⟩
  have H:KR q=(false,[cJ q]):=by cases q<;>first|rfl|exact absurd ⟨_,rfl⟩ z
  have h:(cJ p==cJ q)=true:=by
   unfold aJu at h
   split at h
   ·exact absurd ⟨_,rfl⟩ e
   ·exact absurd ⟨_,rfl⟩ e
   ·exact absurd ⟨_,rfl⟩ z
   ·exact h
  rw[D,H,eq_of_beq h]
theorem WR:∀{cs ds:List PV},aJt cs ds=true->cs.map KR=ds.map KR
 | [],[],_=>rfl
 | c::cs,d::ds,h=>by
  have h:(aJu c d&&aJt cs ds)=true:=h
  rw[aB]at h
  rw[bR,bR,WR h.2,aFM h.1]
 | [],_::_,h=>by cases h
 | _::_,[],h=>by cases h
theorem aHI {l:List PV} (h:∀p∈l,TX p=false):TX (aBg l)=false:=by
 match l,h with
 | [],_=>rfl
 | [p],h=>exact h p (by simp)
 | _::_::_,_=>rfl
theorem XZ {sh:Sh} {x:sh.V}:TX (sh.encC x)=false:=by
 cases sh<;>try rfl
 case own k id=>show TX (UU id k x)=false;unfold UU;split<;>rfl
theorem aFx:∀{l:List Sh} {x:PL l},∀p∈yN l x,TX p=false:=by
 intro l
 induction l with
 | nil=>intro x p hp;cases hp
 | cons a l ih=>
  intro x p hp
  cases l with
  | nil=>rw[List.mem_singleton.1 hp];exact XZ
  | cons b l=>
   rcases List.mem_cons.1 hp with rfl|hp
   ·exact XZ
   ·exact ih p hp
theorem wX.ret_gb {o:wX} {r:o.out.V} (h:lnQ o.nx=false):TX (o.ret r)=false:=by
 unfold wX.ret
 rw[h]
 refine aHI fun p e=> ?_
 have e:=iA e
 obtain⟨f,pat,ins,nx,out,pf⟩:=o
 cases out with
 | one sh=>rw[List.mem_singleton.1 e];exact XZ
 | tup l=>exact aFx p e
theorem aFN {o:wX} {r:o.out.V} {avs bs:List PV} (h:aLf o.nx avs bs=true):TX (o.ret r)=false∨avs.map KR=bs.map KR:=by
 unfold aLf at h
 split at h
 ·exact .inr (WR h)
 ·rename_i e;exact .inl (wX.ret_gb e)
section
variable {P:Program} {G:Nat} {E:World->Prop}
def DA (P:Program) (G:Nat) (E:World->Prop) (o:wX):Prop:=∀v r,o.p v=some r->hO P G E o.f (o.args v) (o.exts v) (o.ret r) (o.back r)
theorem E3 {J:Type} {o:Option α} {f:α->Option J} {r:J} (h:bd o f=some r):∃a,o=some a/\f a=some r:=Option.bind_eq_some_iff.1 h
theorem R5 {J:Type} {f:FuncId} {args:List PV} {exts:List (List PV)} {K:PV->List (List PV)->Option J} {r:J}:∀{C:List wX},(∀o∈C,DA P G E o)->aBk C f args exts K=some r->∃v ys,hO P G E f args exts v ys/\K v ys=some r
 | [],_,h=>by cases h
 | o::C,H,h=>by
  have ih:=R5 (f:=f) (args:=args) (exts:=exts) (r:=r) (C:=C) (K:=K) fun o I=>H o (aI _ I)
  unfold aBk at h
  split at h
  ·rename_i M
   split at h
   ·rename_i ds z
    split at h
    ·rename_i xs D
     split at h
     ·rename_i v R
      split at h
      ·rename_i e
       obtain⟨x,W,Y⟩:=E3 h
       obtain rfl:=aS M
       obtain⟨w1,w2⟩:=QE z (WK R)
       exact⟨_,_,(H o (aN ..) v x W).argsX w1 (aEH D w2) (aFN e),Y⟩
      ·exact ih h
     ·exact ih h
    ·exact ih h
   ·exact ih h
  ·exact ih h
theorem N8 {J:Type} {b:Bool} {x y:Option J} {r:J} (h:br b x y=some r):(b=true/\x=some r)∨(b=false/\y=some r):=by
 unfold br at h
 cases b<;>simp at h
 ·exact .inr ⟨rfl,h⟩
 ·exact .inl ⟨rfl,h⟩
theorem aEW {J:Type} {l:List α} {x y:Option J} {r:J} (h:aAx l x y=some r):y=some r/\(l=[]->x=some r):=by
 unfold aAx at h
 rcases N8 h with⟨D,z⟩ |⟨D,z⟩
 ·split at z
  ·rename_i e;exact⟨z,fun _=>e.trans z⟩
  ·cases z
 ·exact⟨z,fun e=>by subst e;cases D⟩
theorem aBP:∀{l i:List Oper} {o:Oper},spl l=some (i,o)->l=i++ [o]
 | [],_,_,h=>by cases h
 | [o],_,_,h=>by cases h;rfl
 | o::D::l,i,z,h=>by
  unfold spl at h
  split at h
  ·rename_i H I e;cases h;rw[aBP e];rfl
  ·cases h
theorem aA9 (h:aDc o=some (x,d)):∃t e k,o.op= .binOp .eql t x (.const (.slice none 0 0)) e/\o.guard=none/\o.dst=some d/\F3 t=some k:=by
 unfold aDc at h
 split at h
 ·rename_i t M e R z D H
  split at h
  ·rename_i k I;cases h;exact⟨t,e,k,z,D,H,I⟩
  ·cases h
 ·cases h
theorem YJ {draw:Bool} {l i:List Oper} (h:YI draw l=some (i,x,d)):draw=false/\∃o t e k,l=i++ [o]/\o.op= .binOp .eql t x (.const (.slice none 0 0)) e/\o.guard=none/\o.dst=some d/\F3 t=some k:=by
 unfold YI at h
 split at h
 ·rename_i H o z
  split at h
  ·rename_i I M D
   cases h
   obtain⟨t,e,k,q⟩:=aA9 D
   exact⟨rfl,o,t,e,k,aBP z,q⟩
  ·cases h
 ·cases h
theorem aEg {V J:Type} {o:Option (V⊕J)} {f:V->Option J} {r:J} (h:jn o f=some r):(∃v,o=some (.inl v)/\f v=some r)∨o=some (.inr r):=by
 unfold jn at h
 obtain⟨s,e,z⟩:=E3 h
 cases s with
 | inl v=>exact .inl ⟨v,e,z⟩
 | inr x=>cases z;exact .inr e
variable {C:List wX}
theorem eM.ev_sound {α J:Type} (H:∀o∈C,DA P G E o):∀(e:eM α) (s:cU) (K:α->cU->List Nat->List Nat->Option J) (res:J),e.ev C s K=some res->∃a s' r w,e.Run (hO P G E) s a s' r w/\K a s' r w=some res
 | .ret a,s,K,res,h=>⟨a,s,[],[],⟨rfl,rfl,rfl,rfl⟩,h⟩
 | .fail,_,_,_,h=>by cases h
 | .rd id k,s,K,res,h=>by
  obtain⟨a,s',r,w,z,D⟩:=eM.ev_sound H (k (s id)) s _ res h
  exact⟨a,s',id::r,w,⟨r,rfl,z⟩,D⟩
 | .wr id e k,s,K,res,h=>by
  obtain⟨a,s',r,w,z,D⟩:=eM.ev_sound H k (eN s id e) _ res h
  exact⟨a,s',r,id::w,⟨w,rfl,z⟩,D⟩
 | .guard p d k,s,K,res,h=>by
  obtain⟨M,h⟩:=E9 h
  obtain⟨a,s',r,w,z,D⟩:=eM.ev_sound H k s _ res h
  exact⟨a,s',r,w,⟨M,z⟩,D⟩
 | .opt o k,s,K,res,h=>by
  obtain⟨x,R,h⟩:=E3 h
  obtain⟨a,s',r,w,z,D⟩:=eM.ev_sound H (k x) s _ res h
  exact⟨a,s',r,w,⟨x,R,z⟩,D⟩
 | .call f args exts k,s,K,res,h=>by
  obtain⟨v,ys,W,h⟩:=R5 H h
  obtain⟨a,s',r,w,z,D⟩:=eM.ev_sound H (k v ys) s _ res h
  exact⟨a,s',r,w,⟨v,ys,W,z⟩,D⟩
 | .ite b x y,s,K,res,h=>by
  rcases N8 h with⟨I,h⟩ |⟨I,h⟩
  ·obtain⟨a,s',r,w,z,D⟩:=eM.ev_sound H x s _ res h
   exact⟨a,s',r,w,.inl ⟨I,z⟩,D⟩
  ·obtain⟨a,s',r,w,z,D⟩:=eM.ev_sound H y s _ res h
   exact⟨a,s',r,w,.inr ⟨I,z⟩,D⟩
theorem Z9 {f:Nat->α} {a:α} (h:f i=a):eN f i a=f:=by
 funext j
 unfold eN
 split
 ·rename_i e;rw[e,h]
 ·rfl
theorem A0 {J:Type} {ops:Array Oper} (W:∀o∈C,DA P G E o):∀(rest:List Oper) (i:Nat) (kn:List (Nat×Bool)) (Z:gU) (K:List Ft->gU->Option J) (res:J),(∀j o,rest[j]?=some o->ops[i+j]?=some o)->rev C ops rest i kn Z K=some res->
  ∃l Z',vS (hO P G E) eop ops l Z Z'/\l.map (·.1)=List.range' i rest.length/\K l Z'=some res
 | [],i,kn,Z,K,res,_,h=>⟨[],Z,.nil Z,rfl,h⟩
 | o::rest,i,kn,Z,K,res,hi,h=>by
  have h0:ops[i]?=some o:=hi 0 o rfl
  have H:∀j M,rest[j]?=some M->ops[i+1+j]?=some M:=fun j M hj=>by have:=hi (j+1) M (by simpa using hj);rw[show i+1+j=i+(j+1) by omega];exact this
  have step:∀t kn',t=Z.t->jE ops o Z.t=some true->((eop o t).ev C Z.s fun v s' r w=>rev C ops rest (i+1) kn' ⟨eJ o.dst v t,s'⟩ fun l Z'=>K ((i,r,w)::l) Z')=some res->
    ∃l Z',vS (hO P G E) eop ops l Z Z'/\l.map (·.1)=List.range' i (o::rest).length/\K l Z'=some res:=by
   rintro t kn' rfl e h
   obtain⟨v,s',r,w,h1,h2⟩:=eM.ev_sound W _ _ _ _ h
   obtain⟨l,Z',Y,h4,h5⟩:=A0 W rest (i+1) _ _ _ res H h2
   exact⟨_,Z',.cons h0 (.inl ⟨e,v,s',h1,rfl⟩) Y,by simp[h4,List.range'_succ],h5⟩
  have skip:∀t kn',t=Z.t->jE ops o Z.t=some false->(rev C ops rest (i+1) kn' ⟨eJ o.dst .un t,Z.s⟩ fun l Z'=>K ((i,[],[])::l) Z')=some res->
    ∃l Z',vS (hO P G E) eop ops l Z Z'/\l.map (·.1)=List.range' i (o::rest).length/\K l Z'=some res:=by
   rintro t kn' rfl e h
   obtain⟨l,Z',Y,h4,h5⟩:=A0 W rest (i+1) _ _ _ res H h
   exact⟨_,Z',.cons h0 (.inr ⟨e,rfl,rfl,rfl⟩) Y,by simp[h4,List.range'_succ],h5⟩
  unfold rev at h
  simp only at h
  split at h
  ·rename_i I
   exact step _ _ rfl (by unfold jE;rw[I]) h
  ·rename_i g want I
   split at h
   ·rename_i R
    exact skip _ _ rfl (by unfold jE;rw[I];simp only[R]) h
   ·rename_i d R
    split at h
    ·rename_i b D
     have e:jE ops o Z.t=some (b==want):=by unfold jE;rw[I];simp only[R,D]
     split at h
     ·split at h
      ·exact step _ _ rfl e h
      ·exact step _ _ rfl e h
      ·exact skip _ _ rfl e h
      ·exact skip _ _ rfl e h
     ·cases want with
      | true=>
       rcases N8 h with⟨z,h⟩ |⟨z,h⟩ <;>subst z
       ·exact step _ _ (Z9 D) e h
       ·exact skip _ _ (Z9 D) e h
      | false=>
       rcases N8 h with⟨z,h⟩ |⟨z,h⟩ <;>subst z
       ·exact skip _ _ (Z9 D) e h
       ·exact step _ _ (Z9 D) e h
    ·rename_i D
     exact skip _ _ rfl (by unfold jE;rw[I];simp only[R,D]) h
    ·cases h
theorem XW.gq {c:Code} {Q:Exit->gU->Prop} (h:XW P X nt c Z fun e Z'=>∃Z2,Gh X nt Z' Z2/\Q e Z2):XW P X nt c Z Q:=fun a w z=>
 wp_mono (h a w z) fun e D w' ⟨Z',H,Z2,I,M⟩=>⟨Z2,I D w' H,M⟩
theorem aHE:∀{l:List Nat},YL l=true->yK l=true
 | [],_=>rfl
 | x::l,h=>by
  simp only[YL,yK,aB,dC,gT]at h⊢
  refine⟨?_,aHE h.2⟩
  simp only[List.contains_eq_any_beq,gT]
  intro y z e
  have:=h.1 y z
  exact this (by rw[fX]at e;rw[e];exact oA _)
def yU (nt:Nat):Code->Bool
 | .region _ ops _=>aFs nt ops.toList
 | .seq x y=>yU nt x&&yU nt y
 | .cond c x y=>dI nt c&&(yU nt x&&yU nt y)
 | .block _ c=>yU nt c
 | .loop c=>yU nt c
 | _=>true
theorem YG {V J:Type} {o:Option V} {v:V} (h:o.map (Sum.inl (β:=J))=some (.inl v)):o=some v:=by
 cases o with
 | none=>cases h
 | some x=>cases h;rfl
theorem aEn {V J:Type} {o:Option J} {v:J} (h:o.map (Sum.inr (α:=V))=some (.inr v)):o=some v:=by
 cases o with
 | none=>cases h
 | some x=>cases h;rfl
theorem aEU (hC:∀o∈C,DA P G E o) (hF:fT P) (hm:P.follows .mixedOrders=true) {T:Tab} {fuel:Nat} (hE:X.E=E) (hG:X.G=G) (W:XOk nx X) :
  ∀(c:Code) (D:yU nt c=true) {J:Type} (Z:gU) (K:Exit->gU->Option J) (r:J) (Q:Exit->gU->Prop),XG C T nx fuel c Z K=some r->(∀e Z',K e Z'=some r->Q e Z')->XW P X nt c Z Q:=by
 intro c
 induction c with
 | skip=>intro _ J Z K r Q h H;exact XW.skip (H _ _ h)
 | label l=>intro _ J Z K r Q h H;exact XW.label (H _ _ h)
 | exit id=>intro _ J Z K r Q h H;exact XW.exit (H _ _ h)
 | ret=>intro _ J Z K r Q h H;exact XW.ret (H _ _ h)
 | seq x y ihx ihy=>
  intro D J Z K r Q h H
  have D:(yU nt x&&yU nt y)=true:=D
  rw[aB]at D
  unfold XG at h
  refine XW.seq ?_
  split at h
  ·refine ihx D.1 Z _ r _ h fun e Z' z=> ?_
   cases e with
   | normal=>exact ihy D.2 Z' K r Q z H
   | _=>exact H _ _ z
  ·rename_i sh _
   obtain⟨v,h1,I⟩:=E3 h
   refine ihx D.1 Z _ v _ h1 fun e Z' z=> ?_
   cases e with
   | normal=>exact XW.gh (lV.dec_gh W z) (ihy D.2 _ K r Q I H)
   | _=>cases z
  ·rename_i sh _
   rcases aEg h with⟨v,h1,I⟩ | h1
   ·refine ihx D.1 Z _ _ _ h1 fun e Z' z=> ?_
    cases e with
    | normal=>exact XW.gh (lV.dec_gh W (YG z)) (ihy D.2 _ K r Q I H)
    | _=>simp at z
   ·refine ihx D.1 Z _ _ _ h1 fun e Z' z=> ?_
    cases e with
    | normal=>simp at z
    | _=>exact H _ _ (aEn z)
 | cond c x y ihx ihy=>
  intro D J Z K r Q h H
  have D:(dI nt c&&(yU nt x&&yU nt y))=true:=D
  rw[aB,aB]at D
  unfold XG at h
  split at h
  ·rename_i b hc
   refine XW.cond hc (fun d e=> ?_) (fun hbt=> ?_) (fun hbf=> ?_)
   ·subst e;simpa [dI]using D.1
   ·subst hbt
    exact ihx D.2.1 Z K r Q h H
   ·subst hbf
    exact ihy D.2.2 Z K r Q h H
  ·cases h
 | block id c ih=>
  intro D J Z K r Q h H
  unfold XG at h
  refine XW.block (ih D Z _ r _ h fun e Z' z=> ?_)
  cases e with
  | exit id'=>
   simp only at z
   show(if id'=id then Q .normal Z' else Q (.exit id') Z')
   split at z
   ·rename_i e;rw[if_pos (aS e)];exact H _ _ z
   ·rename_i e;rw[if_neg (fun e2=>by rw[e2,oA]at e;cases e)];exact H _ _ z
  | _=>exact H _ _ z
 | loop c ih=>
  intro D J Z K r Q h H
  unfold XG at h
  split at h
  ·cases h
  ·rename_i si id so _
   split at h
   ·cases h
   ·rename_i v hv
    obtain⟨o,h1,I⟩:=E3 h
    refine XW.gq (XW.loop (fun n Z=>∃v,Gh X nt Z (si.enc v)/\aL _ n v=some o) fuel ⟨v,lV.dec_gh W hv,h1⟩ fun n Z ⟨v,hgh,M⟩=>XW.gh hgh ?_)
    cases n with
    | zero=>cases M
    | succ n=>
     unfold aL at M
     split at M
     ·cases M
     ·rename_i v' R
      refine ih D _ _ _ _ R fun e Z' z=> ?_
      cases e with
      | normal=>exact⟨n,cM n,v',lV.dec_gh W (YG z),M⟩
      | exit id'=>
       simp only at z
       split at z
       ·simp at z
       ·cases z
      | _=>cases z
     ·rename_i o' R
      cases M
      refine ih D _ _ _ _ R fun e Z' z=> ?_
      cases e with
      | normal=>simp at z
      | exit id'=>
       simp only at z
       split at z
       ·rename_i e;rw[aS e];exact⟨_,lV.dec_gh W (aEn z),H _ _ I⟩
       ·cases z
      | _=>cases z
  ·rename_i si id so _
   split at h
   ·cases h
   ·rename_i v hv
    have key:∃x,aL (fun v=>XG C T nx fuel c (J:=EL si.es⊕(EL so.es⊕J)) (si.enc v) fun e Z'=>match e with
      | .normal=>(si.dec nx Z').map .inl
      | .exit id'=>(match Nat.beq id' id with
       | true=>(so.dec nx Z').map fun o=> .inr (.inl o)
       | false=>(K (.exit id') Z').map fun r=> .inr (.inr r))
      | e=>(K e Z').map fun r=> .inr (.inr r)) fuel v=some x/\((∃o,x= .inl o/\K (.exit id) (so.enc o)=some r)∨x= .inr r):=by
     rcases aEg h with⟨o,q1,q2⟩ | q1
     ·exact⟨_,q1,.inl ⟨o,rfl,q2⟩⟩
     ·exact⟨_,q1,.inr rfl⟩
    obtain⟨x,h1,I⟩:=key
    refine XW.gq (XW.loop (fun n Z=>∃v,Gh X nt Z (si.enc v)/\aL _ n v=some x) fuel ⟨v,lV.dec_gh W hv,h1⟩ fun n Z ⟨v,hgh,M⟩=>XW.gh hgh ?_)
    cases n with
    | zero=>cases M
    | succ n=>
     unfold aL at M
     split at M
     ·cases M
     ·rename_i v' R
      refine ih D _ _ _ _ R fun e Z' z=> ?_
      cases e with
      | normal=>exact⟨n,cM n,v',lV.dec_gh W (YG z),M⟩
      | exit id'=>
       simp only at z
       split at z
       ·simp at z
       ·simp at z
      | _=>simp at z
     ·rename_i o' R
      cases M
      refine ih D _ _ _ _ R fun e Z' z=> ?_
      have out:∀e Z',(K e Z').map (fun r=>(Sum.inr (Sum.inr r):EL si.es⊕(EL so.es⊕J)))=some (.inr x)->K e Z'=some r:=by
       intro e Z' z
       cases hq:K e Z' with
       | none=>rw[hq]at z;cases z
       | some y=>
        rw[hq]at z
        rcases I with⟨o,rfl,_⟩ | rfl
        ·simp at z
        ·simp at z;rw[z]
      cases e with
      | normal=>simp at z
      | exit id'=>
       simp only at z
       split at z
       ·rename_i e
        rw[aS e]
        cases hq:so.dec nx Z' with
        | none=>rw[hq]at z;cases z
        | some o=>
         rw[hq]at z
         rcases I with⟨o',rfl,I⟩ | rfl
         ·simp at z
          subst z
          exact⟨_,lV.dec_gh W hq,H _ _ I⟩
         ·simp at z
       ·exact⟨_,fun _ _ h=>h,H _ _ (out _ _ z)⟩
      | _=>exact⟨_,fun _ _ h=>h,H _ _ (out _ _ z)⟩
 | region id ops draw=>
  intro D J Z K r Q h H
  have D:aFs nt ops.toList=true:=D
  have eo:ops=ops.toList.toArray:=by simp
  unfold XG at h
  split at h
  ·rename_i i x d hn
   obtain⟨rfl,o,t,t',k0,el,ho,hgu,hdst,z⟩:=YJ hn
   obtain⟨ft,Z',h1,I,Y⟩:=A0 hC (ops:=ops) i 0 [] Z _ r (fun j o' hj=>by
    have:ops.toList[j]?=some o':=by rw[el,bM (iR.1 hj).1];exact hj
    simpa using this) h
   have eo:ops=(i++ [o]).toArray:=by rw[<-el]
   have D:aFs nt (i++ [o])=true:=by rw[<-el];exact D
   have hb2:=HO hF hE hG D
   have hx:dI nt x=true:=by
    have:(aBj nt o&&aKO nt o)=true:=List.all_eq_true.1 D o (by simp)
    rw[aB]at this
    have h0:=this.1
    unfold aBj at h0
    rw[ho]at h0
    simp[Op.operands]at h0
    exact h0.1
   rw[eo]
   refine XW.regionN hF hb2.1 hb2.2 ho hgu hdst hx z ⟨ft,Z',by rw[<-eo];exact h1,I,fun S w' J' σ u hv=> ?_⟩
   split at Y
   ·rename_i own k l he
    rw[he]at hv
    obtain⟨h4,h5⟩:=aEW Y
    obtain⟨a,cap,e1,_,_,h6⟩:=(show wY S w' k u l from hv.2)
    cases a with
    | none=>
     have M:l=[]:=by
      by_cases M:l=[]
      ·exact M
      ·obtain⟨_,_,h7,_⟩:=h6 M;cases h7
     exact⟨none,_,_,e1,H _ _ (h5 M)⟩
    | some p=>exact⟨some p,_,_,e1,H _ _ h4⟩
   ·rename_i he
    rw[he]at hv
    have e1:u= .slice none 0 0:=hv
    exact⟨none,_,_,e1,H _ _ Y⟩
   ·cases Y
  ·rename_i hn
   split at h
   ·obtain⟨ft,Z',h1,I,Y⟩:=A0 hC (ops:=ops) ops.toList 0 [] Z _ r (fun j o hj=>by simpa using hj) h
    have h4:K .normal Z'=some r/\(draw=true->BI ops ft=true):=by
     split at Y
     ·exact⟨Y,fun h=>nomatch h⟩
     ·split at Y
      ·rename_i ho;exact⟨Y,fun _=>ho⟩
      ·cases Y
    cases draw with
    | false=>rw[eo];exact XW.reg hF hE hG D ⟨ft,Z',by rw[<-eo];exact h1,I,H _ _ h4.1⟩
    | true=>rw[eo];exact XW.drw hF hE hG hm D ⟨ft,Z',by rw[<-eo];exact h1,I,by rw[<-eo];exact h4.2 rfl,H _ _ h4.1⟩
   ·rename_i sh _
    obtain⟨v,h1,I⟩:=E3 h
    obtain⟨ft,Z',q1,q2,q3⟩:=A0 hC (ops:=ops) ops.toList 0 [] Z _ v (fun j o hj=>by simpa using hj) h1
    have h4:sh.dec nx Z'=some v/\(draw=true->BI ops ft=true):=by
     split at q3
     ·exact⟨q3,fun h=>nomatch h⟩
     ·split at q3
      ·rename_i ho;exact⟨q3,fun _=>ho⟩
      ·cases q3
    refine XW.gq ?_
    cases draw with
    | false=>rw[eo];exact XW.reg hF hE hG D ⟨ft,Z',by rw[<-eo];exact q1,q2,_,lV.dec_gh W h4.1,H _ _ I⟩
    | true=>rw[eo];exact XW.drw hF hE hG hm D ⟨ft,Z',by rw[<-eo];exact q1,q2,by rw[<-eo];exact h4.2 rfl,_,lV.dec_gh W h4.1,H _ _ I⟩
 | _=>intro _ J Z K r Q h;cases h
theorem csn:∀o∈([]:List wX),DA P G E o:=fun _ h=>by cases h
theorem csc {o:wX} {l:List wX} (h:DA P G E o) (e:∀x∈l,DA P G E x):∀x∈o::l,DA P G E x:=fun x hx=>by
 rcases List.mem_cons.1 hx with rfl|hx
 ·exact h
 ·exact e x hx
def okB (nt nx:Nat) (avs:List PV) (xs:List (List PV)):Bool:=aHx (lnQ nx) avs xs.length&&(xs.all (fun cs=>cs.all vY)&&(Nat.ble avs.length nt&&(Nat.ble avs.length 1000&&(Nat.beq xs.length (nxB nx)&&(Nat.ble (nxB nx) 49&&(Nat.ble (M8 (lnQ nx) avs).length (nxL nx)&&xs.all fun cs=>Nat.ble cs.length 1000))))))
theorem DA.mk (hC:∀o∈C,DA P G E o) (hF:fT P) (hm:P.follows .mixedOrders=true) (D:∀w w':World,E w->(∀b,b<G->w'.heap[b]?=w.heap[b]?)->E w') {o:wX} (T:Tab) (fuel:Nat) {fn:Func} {c:Code} (hf:P.funcs[o.f]?=some fn) (hb:fn.body=some c)
  (hB:((fn.name== "runtime.NumGoroutine")==false&&yU fn.ntmps c)=true) (R:∀v,okB fn.ntmps o.nx (o.args v) (o.exts v)=true) (W:∀v r,(o.back r).map List.length=(o.exts v).map List.length) (h:∀v,fev C T o.nx fuel fn o.pat o.ins o.out v=o.p v):DA P G E o:=fun v r I=>by
 rw[<-h v]at I
 simp only[aB,fX]at hB
 obtain⟨b1,b2⟩:=hB
 have Y:=R v
 unfold okB at Y
 simp only[aB]at Y
 obtain⟨k1,k2,k3,k4,M,k6,k8,k7⟩:=Y
 have M:=aS M
 refine hO.mk hF D hf b1 hb k1 k2 (bY k3) (by rw[M];exact bY k6) (fun cs H=>bY (List.all_eq_true.1 k7 cs H)) (bY k4) (fun X hE hX hG hR=> ?_) (W v r)
 unfold fev at I
 rw[hb]at I
 refine XW.gq (aEU hC hF hm hE hG ⟨hX.trans M,fun q u n hq=>eQ (hR q u n hq) (bY k8)⟩ c b2 _ _ r _ I fun e Z' z=>⟨aMy o.nx fn.results.toList Z',aIA _ _,?_⟩)
 have fin:∀Z',aK2 fn.ntmps o.nx fn.results.toList (o.exts v).length (M8 (lnQ o.nx) (o.args v)) o.out Z'=some r->aMA fn.ntmps fn.results.toList (o.exts v).length (M8 (lnQ o.nx) (o.args v)) (o.res r) (o.gbs r) (o.back r) .ret Z':=by
  intro Z' z
  unfold aK2 at z
  split at z
  ·cases z
  ·rename_i vs hvs
   split at z
   ·cases z
   ·rename_i cs H
    split at z
    ·cases z
    ·rename_i qs A B D
     split at z
     ·rename_i hn
      rw[aB]at hn
      split at z
      ·rename_i rs hrs
       exact⟨vs,cs,qs,A,B,hvs,H,D,aHE hn.1,hn.2,aIw hrs (Ro.decL_wk z)⟩
      ·cases z
     ·cases z
 cases e with
 | normal=>exact fin _ z
 | ret=>exact fin _ z
 | _=>cases z
theorem DA.rec {f:FuncId} {pat:List (Option PV)} {ins:List Sh} {nx:Nat} {out:Ro} {B:(PL ins->Option out.V)->PL ins->Option out.V} (h:∀slf,DA P G E ⟨f,pat,ins,nx,out,slf⟩->DA P G E ⟨f,pat,ins,nx,out,B slf⟩):∀n,DA P G E ⟨f,pat,ins,nx,out,lU B n⟩
 | 0=>fun v r e=>by cases e
 | n+1=>h _ (DA.rec h n)
end
def toB {α:Type} {k:K} (f:α->Option (ty k)):List α×List (ty k)×Int->Option ((List α×List (ty k)×Int)⊕List (ty k)):=fun(a,b,i)=>
 br (decide (i<(↑a.length:Int))) (
  gd (0<=i/\i<(↑a.length:Int)) <|
  bd a[i.toNat]? fun x=>
  bd (f x) fun y=>
  gd (0<=i/\i<(↑b.length:Int)) <|
  bd (b[0+i.toNat]?) fun _=>
  gd (cN IntKind.i64 (i+1)) <|
  some (.inl (a,b.set (0+i.toNat) y,i+1))) <|
 some (.inr b)
def toG {α:Type} (k:K) (f:α->Option (ty k)) (m:Nat) (l:List α):Option (List (ty k)):=
 gd (0<=(↑l.length:Int)/\(↑l.length:Int)<=(↑l.length:Int)) <|
 gd (cR k (↑l.length:Int).toNat) <|
 bd (α:=List (ty k)) (aL (toB f) m (l,List.replicate (↑l.length:Int).toNat (zK k),0)) fun x=>some x
def eqB {α:Type} (f:α->α->Option Bool):List α×List α×Int->Option ((List α×List α×Int)⊕(Unit⊕Bool)):=fun(a,b,i)=>
 br (decide (i<(↑a.length:Int))) (
  gd (0<=i/\i<(↑a.length:Int)) <|
  bd a[i.toNat]? fun x=>
  gd (0<=i/\i<(↑b.length:Int)) <|
  bd b[i.toNat]? fun y=>
  bd (f x y) fun c=>
  br (!c) (some (.inr (.inr false))) <|
  gd (cN IntKind.i64 (i+1)) <|
  some (.inl (a,b,i+1))) <|
 some (.inr (.inl ()))
def eqG {α:Type} (f:α->α->Option Bool) (m:Nat) (a b:List α):Option Bool:=
 br ((↑a.length:Int) !=(↑b.length:Int)) (some false) <|
 jn (V:=Unit) (aL (eqB f) m (a,b,0)) fun _=>some true
def szC {α:Type} (f:α->Int->Option Int):List α×Int×Int->Option ((List α×Int×Int)⊕(Int⊕Int)):=fun(a,k,i)=>
 br (decide (i<(↑a.length:Int))) (
  gd (0<=i/\i<(↑a.length:Int)) <|
  bd a[i.toNat]? fun x=>
  bd (f x k) fun y=>
  br (decide (y<0)) (some (.inr (.inr (-1)))) <|
  some (.inl (a,y,IntKind.i64.wrap (i+1)))) <|
 some (.inr (.inl k))
def szG {α:Type} (f:α->Int->Option Int) (m:Nat) (l:List α) (a:Int):Option Int:=
 gd (cN IntKind.i64 (a-(↑l.length:Int))) <|
 br (decide (a-(↑l.length:Int)<0)) (some (-1)) <|
 jn (V:=Int) (aL (szC f) m (l,a-(↑l.length:Int),0)) fun v=>some v
def szL {α:Type} (l:List α) (a:Int):Option Int:=
 gd (cN IntKind.i64 (a-(↑l.length:Int))) <|
 br (decide (a-(↑l.length:Int)<0)) (some (-1)) <|
 some (a-(↑l.length:Int))
end Go.Px

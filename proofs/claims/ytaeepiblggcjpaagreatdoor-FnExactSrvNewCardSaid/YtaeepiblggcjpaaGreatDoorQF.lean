/- What a call may hold, as plain values and a store: a small machine over them, the functions of this program as its contracts, and the plain laws: texts QR2 to QK. -/
import Derived.Test.YtaeepiblggcjpaaGreatDoorQE
import Derived.Sort.Walk0
set_option linter.unusedSimpArgs false
set_option linter.unusedVariables false
set_option linter.constructorNameAsVariable false
namespace Go.Px
variable {O α J:Type} {F i:Nat} {n:ByteArray} {rest t:List INode} {h next p w:Int} {s:IState} {A a b f:List Int} {d:IDisk} {kept:List ILink} {x:IProc} {o:IOp}
theorem inK_i64 {v:Int} (h1: -9223372036854775808<=v) (h2:v<=9223372036854775807):inK .i64 v:=(wrap_iff .i64 v).2 ⟨h1,h2⟩
theorem gd_i64 {v:Int} {x:Option J} (h1: -9223372036854775808<=v) (h2:v<=9223372036854775807):gd (inK .i64 v) x=x:=gd_t (inK_i64 h1 h2) x
theorem gd_ix {a b:Int} {x:Option J} (h1:0<=a) (h2:a<b):gd (0<=a/\a<b) x=x:=gd_t ⟨h1,h2⟩ x
theorem gd_ixe {a b:Int} {x:Option J} (h1:0<=a) (h2:a<=b):gd (0<=a/\a<=b) x=x:=gd_t ⟨h1,h2⟩ x
theorem ba_eq {a b:List UInt8}:(ByteArray.mk a.toArray=ByteArray.mk b.toArray)↔a=b:=by
 constructor
 ·intro h
  have:=congrArg (fun x=>x.data.toList) h
  simpa using this
 ·rintro rfl;rfl
theorem rr_inner1 (F:Nat) (l:List UInt8) (r:Int):loopF (pS_RuneRead_b2 F) (F+1) (l,0,1,r,1)=some (l,0,1,r):=by
 simp[loopF,pS_RuneRead_b2,br]
theorem rr_step (F:Nat) (l:List UInt8) (n r i:Int) (y:UInt8) (hi:0<=i) (hin:i<n) (hn:n<=3) (hy:l[i.toNat]?=some y) (h1: -100000<=r) (h2:r<=100000):pS_RuneRead_b2 F (l,0,n,r,i)=some (.inl (l,0,n,r*64+y.toNat-128,i+1)):=by
 have hy8:=u8_lt y
 have hl:=(qS1.1 hy).1
 unfold pS_RuneRead_b2
 simp only[Int.zero_add,qT1 hin,br_t,hy,bd_s]
 rw[gd_i64 (by omega) (by omega),gd_i64 (by omega) (by omega),gd_ix (by omega) (by omega),gd_i64 (by omega) (by omega),gd_i64 (by omega) (by omega),gd_i64 (by omega) (by omega)]
theorem rr_end (F:Nat) (l:List UInt8) (n r:Int):pS_RuneRead_b2 F (l,0,n,r,n)=some (.inr (l,0,n,r)):=by
 simp[pS_RuneRead_b2,br]
theorem rr_inner2 (F:Nat) (x y:UInt8) (t:List UInt8) {r:Int} (h1: -1000<=r) (h2:r<=1000):loopF (pS_RuneRead_b2 F) (F+2) (x::y::t,0,2,r,1)=some (x::y::t,0,2,r*64+y.toNat-128):=by
 rw[loopF,rr_step F _ 2 r 1 y (by omega) (by omega) (by omega) rfl (by omega) (by omega)]
 simp only[loopF]
 rw[show(1:Int)+1=2 from rfl,rr_end]
theorem rr_inner3 (F:Nat) (x y z:UInt8) (t:List UInt8) {r:Int} (h1: -1000<=r) (h2:r<=1000):loopF (pS_RuneRead_b2 F) (F+3) (x::y::z::t,0,3,r,1)=some (x::y::z::t,0,3,(r*64+y.toNat-128)*64+z.toNat-128):=by
 have hy8:=u8_lt y
 rw[loopF,rr_step F _ 3 r 1 y (by omega) (by omega) (by omega) rfl (by omega) (by omega)]
 simp only[loopF]
 rw[show(1:Int)+1=2 from rfl,rr_step F _ 3 _ 2 z (by omega) (by omega) (by omega) rfl (by omega) (by omega)]
 simp only
 rw[show(2:Int)+1=3 from rfl,rr_end]
theorem rr_outer (F:Nat) (l:List UInt8) (n:Nat) (x:UInt8) (b r:Int) (h1:1<=n) (h3:n<=3) (hn:n<=l.length) (hl:l.length<=1000) (hx:l[0]?=some x) (hb:([0,0,192,224]:List Int)[n]?=some b) (hin:loopF (pS_RuneRead_b2 F) F (l,0,(n:Int),(x.toNat:Int)-b,1)=some (l,0,(n:Int),r)) :
  pS_RuneRead_b1 F (l,0,(n:Int))=if runeBytes r=l.take n then some (.inr (.inr (r,(n:Int))))else some (.inl (l,0,(n:Int)+1)):=by
 have hx8:=u8_lt x
 have hbb:0<=b/\b<=224:=by
  match n,hb with
  | 1,hb=>have e:some (0:Int)=some b:=hb;cases e;omega
  | 2,hb=>have e:some (192:Int)=some b:=hb;cases e;omega
  | 3,hb=>have e:some (224:Int)=some b:=hb;cases e;omega
  | 0,_=>omega
  | n+4,_=>omega
 unfold pS_RuneRead_b1
 simp only[qT1 (show(n:Int)<=3 by omega),br_t]
 rw[gd_i64 (by omega) (by omega)]
 simp only[bd_s,qT1 (show(n:Int)<=(l.length:Int)-0 by omega),br_t]
 rw[gd_ix (by omega) (by omega)]
 rw[show((0:Int).toNat)=0 from rfl,hx]
 simp only[bd_s]
 rw[gd_ix (by omega) (by show(n:Int)<((4:Nat):Int);omega),show(0+(n:Int).toNat)=n by omega,hb]
 simp only[bd_s]
 rw[gd_i64 (by omega) (by omega),hin]
 simp only[bd_s,pS_RuneBytes_eq]
 by_cases hlen:(runeBytes r).length=n
 ·have e:((runeBytes r).length:Int)==(n:Int):=by simp[hlen]
  simp only[e,br_t]
  rw[gd_i64 (by omega) (by omega),gd_ixe (by omega) (by omega),gd_ixe (by omega) (by simp)]
  simp only[bd_s,show(0+(n:Int)).toNat=n by omega,show((0:Int).toNat)=0 from rfl,List.drop_zero,ba_eq]
  by_cases he:runeBytes r=l.take n
  ·simp only[he,decide_true,br_t,if_true]
  ·simp only[he,decide_false,br_f,if_false]
   rw[gd_i64 (by omega) (by omega)]
 ·have e:(((runeBytes r).length:Int)==(n:Int))=false:=by simp;omega
  have he:runeBytes r≠l.take n:=fun e=>hlen (by rw[e,List.length_take];omega)
  simp only[e,br_f,bd_s,he,if_false]
  rw[gd_i64 (by omega) (by omega)]
theorem rr_stop (F:Nat) (l:List UInt8) (n:Nat) (hn:l.length<n) (h4:n<=4):pS_RuneRead_b1 F (l,0,(n:Int))=some (.inr (.inl ())):=by
 unfold pS_RuneRead_b1
 by_cases h:n<=3
 ·simp only[qT1 (show(n:Int)<=3 by omega),br_t]
  rw[gd_i64 (by omega) (by omega)]
  simp only[bd_s,qF1 (show¬(n:Int)<=(l.length:Int)-0 by omega),br_f]
 ·simp only[qF1 (show¬(n:Int)<=3 by omega),br_f,bd_s]
theorem rr_outer' (F:Nat) (l:List UInt8) (n:Nat) (x:UInt8) (b r:Int) (h1:1<=n) (h3:n<=3) (hn:n<=l.length) (hl:l.length<=1000) (hx:l[0]?=some x) (hb:([0,0,192,224]:List Int)[n]?=some b) (hin:loopF (pS_RuneRead_b2 F) F (l,0,(n:Int),(x.toNat:Int)-b,1)=some (l,0,(n:Int),r)) :
  (runeBytes r=l.take n->pS_RuneRead_b1 F (l,0,(n:Int))=some (.inr (.inr (r,(n:Int)))))/\(runeBytes r≠l.take n->pS_RuneRead_b1 F (l,0,(n:Int))=some (.inl (l,0,(n:Int)+1))):=by
 have h:=rr_outer F l n x b r h1 h3 hn hl hx hb hin
 exact⟨fun e=>by rw[h,if_pos e],fun e=>by rw[h,if_neg e]⟩
theorem rr_one (F:Nat) (x:UInt8) (t:List UInt8) (hl:t.length<=100):(runeBytes (run1 x)=[x]->pS_RuneRead_b1 (F+3) (x::t,0,1)=some (.inr (.inr (run1 x,1))))/\(runeBytes (run1 x)≠[x]->pS_RuneRead_b1 (F+3) (x::t,0,1)=some (.inl (x::t,0,2))):=
 rr_outer' (F+3) (x::t) 1 x 0 (run1 x) (by omega) (by omega) (by simp) (by simp;omega) rfl rfl (by
  rw[show((x.toNat:Int)-0)=run1 x by unfold run1;omega]
  exact rr_inner1 (F+2) (x::t) (run1 x))
theorem rr_two (F:Nat) (x y:UInt8) (t:List UInt8) (hl:t.length<=100):(runeBytes (run2 x y)=[x,y]->pS_RuneRead_b1 (F+3) (x::y::t,0,2)=some (.inr (.inr (run2 x y,2))))/\(runeBytes (run2 x y)≠[x,y]->pS_RuneRead_b1 (F+3) (x::y::t,0,2)=some (.inl (x::y::t,0,3))):=by
 have hx:=u8_lt x
 exact rr_outer' (F+3) (x::y::t) 2 x 192 (run2 x y) (by omega) (by omega) (by simp) (by simp;omega) rfl rfl (rr_inner2 (F+1) x y t (by omega) (by omega))
theorem rr_three (F:Nat) (x y z:UInt8) (t:List UInt8) (hl:t.length<=100):(runeBytes (run3 x y z)=[x,y,z]->pS_RuneRead_b1 (F+3) (x::y::z::t,0,3)=some (.inr (.inr (run3 x y z,3))))/\(runeBytes (run3 x y z)≠[x,y,z]->pS_RuneRead_b1 (F+3) (x::y::z::t,0,3)=some (.inl (x::y::z::t,0,4))):=by
 have hx:=u8_lt x
 exact rr_outer' (F+3) (x::y::z::t) 3 x 224 (run3 x y z) (by omega) (by omega) (by simp) (by simp;omega) rfl rfl (rr_inner3 F x y z t (by omega) (by omega))
theorem pS_RuneRead_eq (F:Nat) (l:List UInt8) (h1:1<=l.length) (h3:l.length<=100):pS_RuneRead (F+5) l 0=some (runeRead l):=by
 unfold pS_RuneRead
 simp only[qF1 (show¬(0:Int)<0 by omega),br_f,bd_s,qF1 (show¬(l.length:Int)<=0 by omega)]
 match l,h1 with
 | x::t,_=>
  have ht:t.length<=100:=by simp at h3;omega
  rw[loopF]
  by_cases c1:runeBytes (run1 x)=[x]
  ·rw[(rr_one (F+2) x t ht).1 c1,show runeRead (x::t)=(run1 x,1) by simp only[runeRead];exact if_pos c1];rfl
  rw[(rr_one (F+2) x t ht).2 c1]
  simp only
  match t,ht with
  | [],_=>
   rw[loopF,show(2:Int)=((2:Nat):Int)from rfl,rr_stop _ _ 2 (by simp) (by omega),show runeRead [x]=(0,0) by simp only[runeRead];exact if_neg c1]
   rfl
  | y::t,ht=>
   have ht':t.length<=100:=by simp at ht;omega
   rw[loopF]
   by_cases c2:runeBytes (run2 x y)=[x,y]
   ·rw[(rr_two (F+2) x y t ht').1 c2,show runeRead (x::y::t)=(run2 x y,2) by simp only[runeRead];rw[if_neg c1];exact if_pos c2];rfl
   rw[(rr_two (F+2) x y t ht').2 c2]
   simp only
   match t,ht' with
   | [],_=>
    rw[loopF,show(3:Int)=((3:Nat):Int)from rfl,rr_stop _ _ 3 (by simp) (by omega),show runeRead [x,y]=(0,0) by simp only[runeRead];rw[if_neg c1];exact if_neg c2]
    rfl
   | z::t,ht'=>
    have ht'':t.length<=100:=by simp at ht';omega
    rw[loopF]
    by_cases c3:runeBytes (run3 x y z)=[x,y,z]
    ·rw[(rr_three (F+2) x y z t ht'').1 c3,show runeRead (x::y::z::t)=(run3 x y z,3) by simp only[runeRead];rw[if_neg c1,if_neg c2];exact if_pos c3];rfl
    rw[(rr_three (F+2) x y z t ht'').2 c3,show runeRead (x::y::z::t)=(0,0) by simp only[runeRead];rw[if_neg c1,if_neg c2];exact if_neg c3]
    simp only
    have:pS_RuneRead_b1 (F+5) (x::y::z::t,0,4)=some (.inr (.inl ())):=by
     unfold pS_RuneRead_b1
     simp only[qF1 (show¬(4:Int)<=3 by omega),br_f,bd_s]
    rw[loopF,this]
    rfl
theorem read2_iff (x b:UInt8):(runeRead [x,b]).2=2↔194<=x.toNat/\x.toNat<=223/\128<=b.toNat/\b.toNat<=191/\(x.toNat=194->160<=b.toNat):=by
 simp only[runeRead]
 by_cases c1:runeBytes (run1 x)=[x]
 ·rw[if_pos c1]
  have:=(run1_iff x).1 c1
  constructor
  ·intro h;simp at h
  ·omega
 rw[if_neg c1]
 by_cases c2:runeBytes (run2 x b)=[x,b]
 ·rw[if_pos c2]
  have:=(run2_iff x b).1 c2
  exact⟨fun _=>this,fun _=>rfl⟩
 ·rw[if_neg c2]
  have:=(not_congr (run2_iff x b)).1 c2
  constructor
  ·intro h;simp at h
  ·intro h;exact absurd h this
theorem read3_iff (x y z:UInt8):(runeRead [x,y,z]).2=3↔224<=x.toNat/\x.toNat<=239/\128<=y.toNat/\y.toNat<=191/\128<=z.toNat/\z.toNat<=191/\(x.toNat=224->160<=y.toNat)/\(x.toNat=237->y.toNat<160):=by
 simp only[runeRead]
 by_cases c1:runeBytes (run1 x)=[x]
 ·rw[if_pos c1]
  have:=(run1_iff x).1 c1
  constructor
  ·intro h;simp at h
  ·omega
 rw[if_neg c1]
 by_cases c2:runeBytes (run2 x y)=[x,y]
 ·rw[if_pos c2]
  have:=(run2_iff x y).1 c2
  constructor
  ·intro h;simp at h
  ·omega
 rw[if_neg c2]
 by_cases c3:runeBytes (run3 x y z)=[x,y,z]
 ·rw[if_pos c3]
  have:=(run3_iff x y z).1 c3
  exact⟨fun _=>this,fun _=>rfl⟩
 ·rw[if_neg c3]
  have:=(not_congr (run3_iff x y z)).1 c3
  constructor
  ·intro h;simp at h
  ·intro h;exact absurd h this
def runeBeginB:List UInt8->Bool
 | [x]=>decide (194<=x.toNat/\x.toNat<=239)
 | [x,y]=>decide (224<=x.toNat/\x.toNat<=239/\128<=y.toNat/\y.toNat<=191/\(x.toNat=224->160<=y.toNat)/\(x.toNat=237->y.toNat<160))
 | _=>false
def byteN (i:Nat):UInt8:=UInt8.ofNat (IntKind.u8.wrap ((128+i:Nat):Int)).toNat
theorem byteN_nat (h:i<64):(byteN i).toNat=128+i:=by
 unfold byteN
 rw[u8wrap (by omega) (by omega),Int.toNat_natCast]
 exact UInt8.toNat_ofNat_of_lt' (show 128+i<256 by omega)
theorem room_small {n:Nat} (h:n<=1000):roomB K.u8 n:=by
 refine⟨by omega,?_⟩
 show n*byt K.u8<=_
 have:byt K.u8=1:=rfl
 rw[this];omega
def hitB (l:List UInt8) (b:UInt8):Bool:=decide ((runeRead (l++ [b])).2=((l++ [b]).length:Int))||(decide (l.length=1)&&decide ((runeRead (l++ [b]++ [UInt8.ofNat (Int.toNat 129)])).2=3))
theorem rb_step (F:Nat) (l:List UInt8) (i:Nat) (hl:l.length=1∨l.length=2) (hi:i<64):pS_RuneBegin_b1 (F+5) (l,((128+i:Nat):Int))=if hitB l (byteN i)then some (.inr (.inr true))else some (.inl (l,((128+(i+1):Nat):Int))):=by
 have hl3:l.length<=2:=by omega
 unfold pS_RuneBegin_b1
 simp only[qT1 (show((128+i:Nat):Int)<192 by omega),br_t,List.nil_append]
 rw[gd_t (room_small (by omega)),gd_t (room_small (by rw[List.length_append];simp;omega))]
 rw[show UInt8.ofNat (IntKind.u8.wrap ((128+i:Nat):Int)).toNat=byteN i from rfl]
 rw[pS_RuneRead_eq F (l++ [byteN i]) (by simp) (by simp;omega)]
 simp only[bd_s]
 unfold hitB
 by_cases c1:(runeRead (l++ [byteN i])).2=((l++ [byteN i]).length:Int)
 ·simp only[show((runeRead (l++ [byteN i])).2==((l++ [byteN i]).length:Int))=true by simpa using c1,br_t,jn_r,qT1 c1,Bool.true_or,if_true]
 simp only[show((runeRead (l++ [byteN i])).2==((l++ [byteN i]).length:Int))=false by simpa using c1,br_f,qF1 c1,Bool.false_or]
 by_cases c2:l.length=1
 ·simp only[show((l.length:Int)==1)=true by simp[c2],br_t,qT1 c2,Bool.true_and]
  rw[gd_t (room_small (by simp;omega)),gd_t (room_small (by simp;omega)),pS_RuneRead_eq F _ (by simp) (by simp;omega)]
  simp only[bd_s]
  by_cases c3:(runeRead (l++ [byteN i]++ [UInt8.ofNat (Int.toNat 129)])).2=3
  ·simp only[show((runeRead (l++ [byteN i]++ [UInt8.ofNat (Int.toNat 129)])).2==3)=true by simpa using c3,br_t,jn_r,qT1 c3,if_true]
  ·simp only[show((runeRead (l++ [byteN i]++ [UInt8.ofNat (Int.toNat 129)])).2==3)=false by simpa using c3,br_f,jn_l,qF1 c3,Bool.false_eq_true,if_false]
   rw[gd_i64 (by omega) (by omega)]
   rfl
 ·simp only[show((l.length:Int)==1)=false by simp;omega,br_f,jn_l,qF1 c2,Bool.false_and,Bool.false_eq_true,if_false]
  rw[gd_i64 (by omega) (by omega)]
  rfl
theorem pS_RuneBegin_len (F:Nat) (l:List UInt8) (hl:l.length=1∨l.length=2):pS_RuneBegin (F+70) l=some ((List.range 64).any fun i=>hitB l (byteN i)):=by
 unfold pS_RuneBegin
 simp only[qF1 (show¬(l.length:Int)<1 by omega),br_f,bd_s,qF1 (show¬(2:Int)<(l.length:Int) by omega)]
 have:=loopF_any (B:=pS_RuneBegin_b1 (F+70)) (fun i=>(l,((128+i:Nat):Int))) (List.range 64) (fun i=>hitB l (byteN i)) (.inr true) (.inl ()) (fuel:=F+70) (v:=(l,128)) rfl (fun i x hx=>by
  have hi:=(qS1.1 hx).1
  have hxi:x=i:=by
   rw[List.getElem?_range (by simpa using hi)]at hx;cases hx;rfl
  subst hxi
  exact rb_step (F+65) l x hl (by simpa using hi)) (by
   rw[List.length_range]
   unfold pS_RuneBegin_b1
   simp only[qF1 (show¬((128+64:Nat):Int)<192 by omega),br_f]) (by rw[List.length_range];omega)
 rw[this]
 cases(List.range 64).any fun i=>hitB l (byteN i)<;>rfl
theorem pS_RuneBegin_eq (F:Nat) (l:List UInt8):pS_RuneBegin (F+70) l=some (runeBeginB l):=by
 match l with
 | []=>rfl
 | [x]=>
  rw[pS_RuneBegin_len F [x] (.inl rfl)]
  congr 1
  rw[Bool.eq_iff_iff,List.any_eq_true]
  have h129:(UInt8.ofNat (Int.toNat 129)).toNat=129:=rfl
  simp only[hitB,runeBeginB,Bool.or_eq_true,Bool.and_eq_true,decide_eq_true_eq,List.mem_range]
  constructor
  ·rintro⟨i,hi,h|⟨_,h⟩⟩
   ·have:=(read2_iff x (byteN i)).1 h
    omega
   ·have:=(read3_iff x (byteN i) _).1 h
    omega
  ·intro h
   by_cases h1:x.toNat<=223
   ·refine⟨32,by omega,.inl ?_⟩
    have hb:=byteN_nat (i:=32) (by omega)
    exact(read2_iff x (byteN 32)).2 ⟨by omega,by omega,by omega,by omega,by omega⟩
   ·by_cases h2:x.toNat=237
    ·refine⟨0,by omega,.inr ⟨rfl,?_⟩⟩
     have hb:=byteN_nat (i:=0) (by omega)
     exact(read3_iff x (byteN 0) _).2 ⟨by omega,by omega,by omega,by omega,by omega,by omega,by omega,by omega⟩
    ·refine⟨32,by omega,.inr ⟨rfl,?_⟩⟩
     have hb:=byteN_nat (i:=32) (by omega)
     exact(read3_iff x (byteN 32) _).2 ⟨by omega,by omega,by omega,by omega,by omega,by omega,by omega,by omega⟩
 | [x,y]=>
  rw[pS_RuneBegin_len F [x,y] (.inr rfl)]
  congr 1
  rw[Bool.eq_iff_iff,List.any_eq_true]
  simp only[hitB,runeBeginB,Bool.or_eq_true,Bool.and_eq_true,decide_eq_true_eq,List.mem_range]
  constructor
  ·rintro⟨i,hi,h|⟨h,_⟩⟩
   ·have:=(read3_iff x y (byteN i)).1 h
    omega
   ·simp at h
  ·intro h
   refine⟨0,by omega,.inl ?_⟩
   have hb:=byteN_nat (i:=0) (by omega)
   exact(read3_iff x y (byteN 0)).2 ⟨by omega,by omega,by omega,by omega,by omega,by omega,by omega,by omega⟩
 | x::y::z::t=>
  unfold pS_RuneBegin
  simp only[qF1 (show¬((x::y::z::t).length:Int)<1 by simp;omega),br_f,bd_s,qT1 (show(2:Int)<((x::y::z::t).length:Int) by simp;omega),br_t]
  rfl
theorem pI_tails_one (F:Nat) (y:UInt8):pI_tails (F+2) [y]=some (if 128<=y.toNat/\y.toNat<=191 then((y.toNat:Int)-128,true)else(0,false)):=by
 have hy:=u8_lt y
 unfold pI_tails
 rw[loopF]
 have e0:pI_tails_b1 (F+2) (0,[y],(([y]:List UInt8).length:Int),0)=if 128<=y.toNat/\y.toNat<=191 then some (.inl ((y.toNat:Int)-128,[y],1,1))else some (.inr (.inr (0,false))):=by
  unfold pI_tails_b1
  simp only[qT1 (show(0:Int)<(([y]:List UInt8).length:Int) by simp),br_t]
  rw[gd_ix (by omega) (by simp)]
  simp only[show((0:Int).toNat)=0 from rfl,List.getElem?_cons_zero,bd_s]
  rw[gd_t (by omega)]
  have hd:(y.toNat:Int).tdiv 64=(y.toNat:Int) / 64:=Int.tdiv_eq_ediv_of_nonneg (by omega)
  have hm:(y.toNat:Int).tmod 64=(y.toNat:Int) % 64:=Int.tmod_eq_emod_of_nonneg (by omega)
  rw[hd,hm,u8wrap (by omega) (by omega)]
  by_cases h:128<=y.toNat/\y.toNat<=191
  ·rw[if_pos h]
   have h2:((y.toNat:Int) / 64 !=2)=false:=by
    have:(y.toNat:Int) / 64=2:=by omega
    rw[this];rfl
   simp only[h2,br_f]
   rw[gd_i64 (by omega) (by omega),gd_t (by omega),gd_i64 (by omega) (by omega),gd_i64 (by omega) (by omega)]
   have:64*0+(y.toNat:Int) % 64=(y.toNat:Int)-128:=by omega
   rw[this]
   rfl
  ·rw[if_neg h]
   have h2:((y.toNat:Int) / 64 !=2)=true:=by
    have:(y.toNat:Int) / 64≠2:=by omega
    simpa using this
   simp only[h2,br_t]
 rw[e0]
 by_cases h:128<=y.toNat/\y.toNat<=191
 ·simp only[if_pos h]
  rw[loopF]
  unfold pI_tails_b1
  simp only[qF1 (show¬(1:Int)<1 by omega),br_f,jn_l]
 ·simp only[if_neg h,jn_r]
theorem pI_RuneBegin_eq (F:Nat) (l:List UInt8):pI_RuneBegin (F+2) l=some (runeBeginB l):=by
 match l with
 | []=>rfl
 | [x]=>
  unfold pI_RuneBegin
  simp only[show(((([x]:List UInt8).length:Nat):Int)==1)=true from rfl,br_t]
  rw[gd_ix (by omega) (by simp)]
  simp only[show((0:Int).toNat)=0 from rfl,List.getElem?_cons_zero,bd_s,pI_within_eq,runeBeginB]
  congr 1
  rw[Bool.eq_iff_iff]
  simp only[Bool.and_eq_true,decide_eq_true_eq]
  omega
 | [x,y]=>
  have hx:=u8_lt x
  have hy:=u8_lt y
  unfold pI_RuneBegin
  simp only[show(((([x,y]:List UInt8).length:Nat):Int)==1)=false from rfl,show(((([x,y]:List UInt8).length:Nat):Int)==2)=true from rfl,br_t,br_f]
  rw[gd_ixe (by omega) (by simp)]
  simp only[show List.drop (Int.toNat 1) [x,y]=[y]from rfl,pI_tails_one,bd_s]
  rw[gd_ix (by omega) (by simp)]
  simp only[show((0:Int).toNat)=0 from rfl,List.getElem?_cons_zero,bd_s,runeBeginB]
  by_cases h:128<=y.toNat/\y.toNat<=191
  ·simp only[if_pos h]
   rw[gd_i64 (by omega) (by omega),gd_i64 (by omega) (by omega),gd_i64 (by omega) (by omega),gd_i64 (by omega) (by omega)]
   simp only[br_t]
   rw[gd_ix (by omega) (by simp)]
   simp only[bd_s,pI_Shows_eq,bd_br,br_ss]
   by_cases h1:224<=(x.toNat:Int)
   ·by_cases h2:2048<=((x.toNat:Int)-224)*4096+((y.toNat:Int)-128)*64
    ·simp only[qT1 h1,qT1 h2,br_t]
     congr 1
     rw[Bool.eq_iff_iff,showsB_iff]
     simp only[decide_eq_true_eq]
     omega
    ·simp only[qT1 h1,qF1 h2,br_t,br_f]
     congr 1
     rw[Bool.eq_iff_iff]
     simp only[decide_eq_true_eq,Bool.false_eq_true,false_iff]
     omega
   ·simp only[qF1 h1,br_f]
    congr 1
    rw[Bool.eq_iff_iff]
    simp only[decide_eq_true_eq,Bool.false_eq_true,false_iff]
    omega
  ·simp only[if_neg h]
   rw[gd_i64 (by omega) (by omega),gd_i64 (by omega) (by omega),gd_i64 (by omega) (by omega),gd_i64 (by omega) (by omega)]
   simp only[br_f,bd_s]
   congr 1
   rw[Bool.eq_iff_iff]
   simp only[decide_eq_true_eq,Bool.false_eq_true,false_iff]
   omega
 | x::y::z::t=>
  unfold pI_RuneBegin
  have e1:(((x::y::z::t).length:Int)==1)=false:=by simp;omega
  have e2:(((x::y::z::t).length:Int)==2)=false:=by simp;omega
  simp only[e1,e2,br_f]
  rfl
theorem gd_p {p:Prop} {d:Decidable p} (h:p) (x:Option J): @gd J p d x=x:=if_pos h
theorem loopF_inv {V O:Type} {B:V->Option (V⊕O)} (I:V->Prop) (m:V->Nat) (Q:O->Prop) (h:∀v,I v->(∃v',B v=some (.inl v')/\I v'/\m v'<m v)∨∃o,B v=some (.inr o)/\Q o):∀(fuel:Nat) (v:V),I v->m v<fuel->∃o,loopF B fuel v=some o/\Q o
 | 0,v,_,hf=>by omega
 | fuel+1,v,hi,hf=>by
  unfold loopF
  rcases h v hi with⟨v',e,h1,h2⟩ |⟨o,e,h1⟩
  ·rw[e];exact loopF_inv I m Q h fuel v' h1 (by omega)
  ·rw[e];exact⟨o,rfl,h1⟩
theorem loopF_run {V:Type} {B:V->Option (V⊕O)} (f:Nat->V) (n:Nat) (R:O) {fuel:Nat} {v:V} (hv:v=f 0) (h:∀i,i<n->B (f i)=some (.inl (f (i+1)))) (he:B (f n)=some (.inr R)) (hf:n<fuel):loopF B fuel v=some R:=by
 subst hv
 have key:∀(m fuel i:Nat),n-i=m->i<=n->m<fuel->loopF B fuel (f i)=some R:=by
  intro m
  induction m with
  | zero=>
   intro fuel i hm hi hf
   obtain rfl:i=n:=by omega
   cases fuel with
   | zero=>omega
   | succ fuel=>unfold loopF;rw[he]
  | succ m ih=>
   intro fuel i hm hi hf
   cases fuel with
   | zero=>omega
   | succ fuel=>unfold loopF;rw[h i (by omega)];exact ih fuel (i+1) (by omega) (by omega) (by omega)
 exact key n fuel 0 rfl (Nat.zero_le _) hf
theorem loopF_scan {V:Type} {B:V->Option (V⊕O)} (f:Nat->V) (n:Nat) (bad:Nat->Bool) (R E:O) {fuel:Nat} {v:V} (hv:v=f 0) (h:∀i,i<n->B (f i)=if bad i then some (.inr R)else some (.inl (f (i+1)))) (he:B (f n)=some (.inr E)) (hf:n<fuel) :
  loopF B fuel v=some (if(List.range n).any bad then R else E):=by
 refine loopF_any f (List.range n) bad R E hv (fun i x hx=> ?_) (by rw[List.length_range];exact he) (by rw[List.length_range];exact hf)
 have hi:i<n:=by have:=(qS1.1 hx).1;simpa using this
 rw[List.getElem?_range hi]at hx
 cases hx
 exact h i hi
theorem roomB_of {k:K} {n:Nat} (h1:n<=2097152) (h2:byt k<=1000):roomB k n:=by
 refine⟨by omega,?_⟩
 have:n*byt k<=2097152*1000:=Nat.mul_le_mul h1 h2
 omega
theorem take_succ_get {l:List α} {x:α} (h:l[i]?=some x):l.take (i+1)=l.take i++ [x]:=by
 rw[List.take_add_one,h];rfl
theorem drop_get {l:List α} {x:α} (h:l[i]?=some x):l.drop i=x::l.drop (i+1):=by
 obtain⟨hi,e⟩:=qS1.1 h
 rw[List.drop_eq_getElem_cons hi,e]
inductive Tre where
 | leaf (x:INode)
 | node (x:INode) (a b:Tre)
def Tre.flat:Tre->List INode
 | .leaf x=> [x]
 | .node x a b=>x::(a.flat++b.flat)
def leafOk (x:INode):Bool:=(decide (1<=x.Pane)&&decide (x.Pane<=1000000))&&(!x.Down&&x.First==0)
def splitOk (x:INode):Bool:=x.Pane==0&&(decide (1<=x.First)&&decide (x.First<=120))
def Tre.ok:Tre->Prop
 | .leaf x=>x.Pane≠0/\leafOk x=true
 | .node x a b=>splitOk x=true/\a.ok/\b.ok
def prs:Nat->List INode->Option (Tre×List INode)
 | 0,_=>none
 | _+1,[]=>none
 | n+1,x::l=>if x.Pane=0 then(if splitOk x=true then(match prs n l with
   | some (a,l1)=>(match prs n l1 with
    | some (b,l2)=>some (.node x a b,l2)
    | none=>none)
   | none=>none)else none)else(if leafOk x=true then some (.leaf x,l)else none)
theorem Tre.flat_pos (T:Tre):0<T.flat.length:=by cases T<;>simp[Tre.flat]
theorem prs_sound:∀{n:Nat} {l:List INode} {T:Tre} {r:List INode},prs n l=some (T,r)->l=T.flat++r/\T.ok
 | 0,_,_,_,h=>by cases h
 | n+1,[],_,_,h=>by cases h
 | n+1,x::l,T,r,h=>by
  unfold prs at h
  split at h
  ·rename_i h0
   split at h
   ·rename_i hs
    split at h
    ·rename_i a l1 h1
     split at h
     ·rename_i b l2 h2
      cases h
      obtain⟨e1,o1⟩:=prs_sound h1
      obtain⟨e2,o2⟩:=prs_sound h2
      exact⟨by simp[Tre.flat,e1,e2],hs,o1,o2⟩
     ·cases h
    ·cases h
   ·cases h
  ·rename_i h0
   split at h
   ·rename_i hl
    cases h
    exact⟨rfl,h0,hl⟩
   ·cases h
theorem prs_complete:∀{T:Tre} {r:List INode} {n:Nat},T.ok->T.flat.length<=n->prs n (T.flat++r)=some (T,r)
 | .leaf x,r,0,_,hn=>by simp[Tre.flat]at hn
 | .leaf x,r,n+1,h,hn=>by
  show prs (n+1) (x::r)=_
  unfold prs
  rw[if_neg h.1,if_pos h.2]
 | .node x a b,r,0,_,hn=>by simp[Tre.flat]at hn
 | .node x a b,r,n+1,h,hn=>by
  have hl:(Tre.node x a b).flat.length=a.flat.length+b.flat.length+1:=by simp[Tre.flat]
  have h0:x.Pane=0:=by have:=h.1;unfold splitOk at this;simp at this;exact this.1
  show prs (n+1) (x::(a.flat++b.flat)++r)=_
  rw[List.cons_append,List.append_assoc]
  unfold prs
  rw[if_pos h0,if_pos h.1,prs_complete h.2.1 (by omega)]
  simp only
  rw[prs_complete h.2.2 (by omega)]
theorem drop_suf {p r t:List α} (h:t=p++r):t.drop (t.length-r.length)=r:=by
 subst h
 simp
def endV (n:Nat) (t l:List INode):Int:=match prs n l with
 | some (_,r)=>(t.length:Int)-(r.length:Int)
 | none=> -1
theorem endOf_neg (fuel n:Nat) (t:List INode):recF (pI_endOf fuel) (n+1) (t,-1)=some (-1):=by
 show pI_endOf fuel _ (t,-1)=_
 unfold pI_endOf
 simp
theorem endOf_at (fuel:Nat) (t:List INode) (ht:t.length<=1048576):∀(n at_:Nat),at_<=t.length->t.length-at_<n->recF (pI_endOf fuel) n (t,(at_:Int))=some (endV n t (t.drop at_))
 | 0,at_,_,h=>by omega
 | n+1,at_,ha,hn=>by
  show pI_endOf fuel (recF (pI_endOf fuel) n) (t,(at_:Int))=_
  have ih:∀a:Nat,a<=t.length->t.length-a<n->recF (pI_endOf fuel) n (t,(a:Int))=some (endV n t (t.drop a)):=endOf_at fuel t ht n
  have ng:0<n->recF (pI_endOf fuel) n (t,-1)=some (-1):=fun h=>by
   obtain⟨m,rfl⟩:∃m,n=m+1:=⟨n-1,by omega⟩
   exact endOf_neg fuel m t
  generalize recF (pI_endOf fuel) n=slf at ih ng⊢
  unfold pI_endOf endV
  have e1:decide ((at_:Int)<0)=false:=by simp
  simp only[e1,br_f,bd_s]
  by_cases hlt:at_<t.length
  ·have hx:t[at_]?=some t[at_]:=qE1 hlt
   obtain⟨h1,h2,h3,h4,h5⟩:=idx_facts hx (by omega)
   have e2:decide ((t.length:Int)<=(at_:Int))=false:=by simp;omega
   rw[drop_get hx]
   simp only[e2,br_f,gd_t h2,h3,bd_s]
   generalize t[at_]=x at hx
   unfold pI_Node_isLeaf
   simp only[bd_s,pI_isId_eq,pI_within_eq]
   unfold prs
   by_cases h0:x.Pane=0
   ·have e3:(x.Pane !=0)=false:=by simp[h0]
    rw[e3,if_pos h0]
    simp only[br_f]
    by_cases hs:splitOk x=true
    ·have e4:(decide (1<=x.First)&&decide (x.First<=120))=true:=by unfold splitOk at hs;simp at hs;simp[hs.2]
     rw[e4,if_pos hs]
     simp only[Bool.not_true,br_f]
     rw[h5,gd_t h4,ih (at_+1) (by omega) (by omega),bd_s]
     unfold endV
     cases hp:prs n (t.drop (at_+1))with
     | none=>
      simp only
      rw[ng (by omega),bd_s]
     | some p=>
      obtain⟨a,r1⟩:=p
      obtain⟨e5,_⟩:=prs_sound hp
      have hrl:r1.length+a.flat.length=t.length-(at_+1):=by
       have:=congrArg List.length e5;rw[List.length_drop,List.length_append]at this;omega
      have hap:=a.flat_pos
      have hdr:t.drop (t.length-r1.length)=r1:=drop_suf (p:=t.take (at_+1)++a.flat) (by rw[List.append_assoc,<-e5,List.take_append_drop])
      have hcast:(t.length:Int)-(r1.length:Int)=((t.length-r1.length:Nat):Int):=by omega
      simp only
      rw[hcast,ih (t.length-r1.length) (by omega) (by omega),hdr,bd_s]
      unfold endV
      cases hq:prs n r1 with
      | none=>rfl
      | some q=>rfl
    ·have e4:(decide (1<=x.First)&&decide (x.First<=120))=false:=by
      unfold splitOk at hs
      simp only[h0,beq_self_eq_true,Bool.true_and]at hs
      simpa using hs
     rw[e4,if_neg hs]
     simp
   ·have e3:(x.Pane !=0)=true:=by simp[h0]
    rw[e3,if_neg h0]
    simp only[br_t]
    by_cases hl:leafOk x=true
    ·rw[if_pos hl]
     unfold leafOk at hl
     simp only[Bool.and_eq_true]at hl
     obtain⟨⟨p1,p2⟩,p3,p4⟩:=hl
     have p3:x.Down=false:=by simpa using p3
     have p5:(x.First !=0)=false:=by simp at p4;simp[p4]
     simp only[p1,p2,p3,p5,Bool.and_self,Bool.not_true,br_f,bd_s]
     rw[h5,gd_t h4]
     simp only[List.length_drop]
     congr 1
     omega
    ·rw[if_neg hl]
     unfold leafOk at hl
     by_cases p1:(decide (1<=x.Pane)&&decide (x.Pane<=1000000))=true
     ·rw[p1]at hl⊢
      cases hd:x.Down with
      | true=>simp
      | false=>
       rw[hd]at hl
       have p4:(x.First==0)=false:=by simpa using hl
       have p5:(x.First !=0)=true:=by simp at p4;simp[p4]
       simp[p5]
     ·have p1:(decide (1<=x.Pane)&&decide (x.Pane<=1000000))=false:=by simpa using p1
      rw[p1]
      simp
  ·obtain rfl:at_=t.length:=by omega
   have e2:decide ((t.length:Int)<=(t.length:Int))=true:=by simp
   rw[e2,List.drop_length]
   simp[prs]
def Tre.sh:Tre->Prop
 | .leaf x=>x.Pane≠0
 | .node x a b=>x.Pane=0/\a.sh/\b.sh
def cnt:Nat->List INode->Option (List INode)
 | _,[]=>none
 | k,x::l=>if x.Pane=0 then cnt (k+1) l else if k=1 then some l else cnt (k-1) l
theorem cnt_cons (k:Nat) (x:INode) (l:List INode):cnt k (x::l)=if x.Pane=0 then cnt (k+1) l else if k=1 then some l else cnt (k-1) l:=by rw[cnt]
theorem cnt_flat:∀{T:Tre} {k:Nat} {r:List INode},T.sh->1<=k->cnt k (T.flat++r)=if k=1 then some r else cnt (k-1) r
 | .leaf x,k,r,h,hk=>by
  show cnt k (x::r)=_
  rw[cnt_cons,if_neg h]
 | .node x a b,k,r,h,hk=>by
  show cnt k (x::(a.flat++b.flat)++r)=_
  rw[List.cons_append,List.append_assoc,cnt_cons,if_pos h.1,cnt_flat h.2.1 (by omega),if_neg (by omega),show k+1-1=k by omega,cnt_flat h.2.2 hk]
theorem cnt_conv:∀{l:List INode} {k:Nat} {r:List INode},1<=k->cnt k l=some r->∃Ts:List Tre,Ts.length=k/\(∀T∈Ts,T.sh)/\l=Ts.flatMap Tre.flat++r
 | [],k,r,_,h=>by cases h
 | x::l,k,r,hk,h=>by
  rw[cnt_cons]at h
  split at h
  ·rename_i h0
   obtain⟨Ts,h1,h2,h3⟩:=cnt_conv (by omega) h
   match Ts,h1 with
   | [T],h1=>simp at h1;omega
   | T1::T2::Ts,h1=>
    refine⟨.node x T1 T2::Ts,by simp at h1⊢;omega,fun T hT=> ?_,by rw[h3];simp[Tre.flat]⟩
    rcases List.mem_cons.1 hT with rfl|hT
    ·exact⟨h0,h2 _ (by simp),h2 _ (by simp)⟩
    ·exact h2 T (by simp[hT])
   | [],h1=>simp at h1
  ·rename_i h0
   split at h
   ·rename_i h1
    cases h
    exact⟨[.leaf x],by simp[h1],fun T hT=>by rw[List.mem_singleton.1 hT];exact h0,by simp[Tre.flat]⟩
   ·rename_i h1
    obtain⟨Ts,h2,h3,h4⟩:=cnt_conv (by omega) h
    refine⟨.leaf x::Ts,by simp[h2];omega,fun T hT=> ?_,by rw[h4];simp[Tre.flat]⟩
    rcases List.mem_cons.1 hT with rfl|hT
    ·exact h0
    ·exact h3 T hT
def cntV (k:Nat) (t l:List INode):Int:=match cnt k l with
 | some r=>(t.length:Int)-(r.length:Int)
 | none=> -1
theorem l13End_loop (fuel:Nat) (t:List INode) (ht:t.length<=1048576):∀(m fl i k:Nat),t.length-i=m->i<=t.length->1<=k->k+m<=10000000->m<fl->
  loopF (pS_l13End_b1 fuel) fl (t,(k:Int),(i:Int))=some (match cnt k (t.drop i)with
   | some r=> .inr ((t.length:Int)-(r.length:Int))
   | none=> .inl ())
 | m,0,_,_,_,_,_,_,h=>by omega
 | 0,fl+1,i,k,hm,hi,hk,hb,hf=>by
  obtain rfl:i=t.length:=by omega
  unfold loopF pS_l13End_b1
  rw[List.drop_length]
  simp[cnt]
 | m+1,fl+1,i,k,hm,hi,hk,hb,hf=>by
  have hlt:i<t.length:=by omega
  have hx:t[i]?=some t[i]:=qE1 hlt
  obtain⟨h1,h2,h3,h4,h5⟩:=idx_facts hx (by omega)
  have ih:=l13End_loop fuel t ht m fl (i+1)
  rw[drop_get hx]
  generalize t[i]=x at hx h3
  unfold loopF
  generalize loopF (pS_l13End_b1 fuel) fl=lf at ih⊢
  unfold pS_l13End_b1
  simp only[h1,br_t,gd_t h2,h3,bd_s]
  rw[cnt_cons]
  by_cases h0:x.Pane=0
  ·have e1:(x.Pane==0)=true:=by simp[h0]
   have e2:((k:Int)+1==0)=false:=by simp;omega
   rw[e1,if_pos h0]
   simp only[br_t]
   rw[gd_t (inK64 (by omega) (by omega)),bd_s]
   simp only[e2,br_f]
   rw[h5,gd_t h4]
   simp only
   rw[show(k:Int)+1=((k+1:Nat):Int) by omega,ih (k+1) (by omega) (by omega) (by omega) (by omega) (by omega)]
  ·have e1:(x.Pane==0)=false:=by simp[h0]
   rw[e1,if_neg h0]
   simp only[br_f]
   rw[gd_t (inK64 (by omega) (by omega)),bd_s]
   by_cases hk1:k=1
   ·have e2:((k:Int)-1==0)=true:=by simp;omega
    simp only[e2,br_t]
    rw[if_pos hk1,h5,gd_t h4]
    simp only[List.length_drop]
    congr 3
    omega
   ·have e2:((k:Int)-1==0)=false:=by simp;omega
    simp only[e2,br_f]
    rw[if_neg hk1,h5,gd_t h4]
    simp only
    rw[show(k:Int)-1=((k-1:Nat):Int) by omega,ih (k-1) (by omega) (by omega) (by omega) (by omega) (by omega)]
theorem l13End_eq {fuel:Nat} (ht:t.length<=1048576) (hi:i<=t.length) (hf:t.length<fuel):pS_l13End fuel t (i:Int)=some (cntV 1 t (t.drop i)):=by
 unfold pS_l13End cntV
 have:=l13End_loop fuel t ht (t.length-i) fuel i 1 rfl hi (by omega) (by omega) (by omega)
 rw[show(1:Int)=((1:Nat):Int)from rfl,this]
 cases cnt 1 (t.drop i)<;>rfl
def lvs (t:List INode):List Int:=(t.filter fun x=>x.Pane !=0).map (·.Pane)
theorem lvs_len (t:List INode):(lvs t).length<=t.length:=by unfold lvs;rw[List.length_map];exact List.length_filter_le _ _
theorem lvs_app (s t:List INode):lvs (s++t)=lvs s++lvs t:=by simp[lvs]
theorem lvs_one (x:INode):lvs [x]=if x.Pane=0 then []else [x.Pane]:=by
 unfold lvs
 by_cases h:x.Pane=0<;>simp[h]
theorem pI_leaves_eq {fuel:Nat} (ht:t.length<=1048576) (hf:t.length<fuel):pI_leaves fuel t=some (lvs t):=by
 unfold pI_leaves
 have key:loopF (pI_leaves_b1 fuel) fuel ([],t,(t.length:Int),0)=some (lvs t):=by
  refine loopF_run (fun i=>(lvs (t.take i),t,(t.length:Int),(i:Int))) t.length (lvs t) rfl (fun i hi=> ?_) (by unfold pI_leaves_b1;simp) hf
  have hx:t[i]?=some t[i]:=qE1 hi
  obtain⟨h1,h2,h3,h4,h5⟩:=idx_facts hx (by omega)
  rw[take_succ_get hx,lvs_app,lvs_one]
  generalize t[i]=x at hx h3
  unfold pI_leaves_b1 pI_Node_isLeaf
  simp only[h1,br_t,gd_t h2,h3,bd_s]
  have hr:roomB K.int (lvs (t.take i)++ [x.Pane]).length:=roomB_of (by have:=lvs_len (t.take i);simp at this⊢;omega) (by decide)
  by_cases h0:x.Pane=0
  ·have e1:(x.Pane !=0)=false:=by simp[h0]
   simp only[e1,br_f,bd_s,if_pos h0,List.append_nil]
   rw[h5,gd_t h4]
  ·have e1:(x.Pane !=0)=true:=by simp[h0]
   simp only[e1,br_t,if_neg h0,gd_t hr,bd_s]
   rw[h5,gd_t h4]
 rw[key]
 rfl
theorem compact_inner (fuel k0:Nat) (l:List Int) (hl:l.length<=1048576) (hk1:1<=k0) (hk:k0<l.length) (hf:l.length<fuel):∃o,loopF (pG_slices_Compact_int_b2 fuel) fuel (l,(k0:Int),(k0,l.length-k0),1)=some o/\o.1.length=l.length/\0<=o.2/\o.2<l.length:=by
 refine loopF_inv (V:=List Int×Int×(Nat×Nat)×Int) (O:=List Int×Int) (fun v=>v.1.length=l.length/\v.2.2.1=(k0,l.length-k0)/\1<=v.2.2.2/\v.2.2.2<=((l.length-k0:Nat):Int)/\(k0:Int)<=v.2.1/\v.2.1+1<=k0+v.2.2.2) (fun v=>(((l.length-k0:Nat):Int)-v.2.2.2).toNat) (fun o=>o.1.length=l.length/\0<=o.2/\o.2<l.length) ?_ fuel _ ⟨rfl,rfl,by dsimp only;omega,by dsimp only;omega,by dsimp only;omega,by dsimp only;omega⟩ (by dsimp only;omega)
 rintro⟨v,k,⟨off,n⟩,i⟩ ⟨a1,a2,a3,a4,a5,a6⟩
 cases a2
 simp only at a1 a3 a4 a5 a6⊢
 unfold pG_slices_Compact_int_b2
 simp only
 by_cases hlt:i<((l.length-k0:Nat):Int)
 ·left
  rw[show decide (i<((l.length-k0:Nat):Int))=true by simpa using hlt]
  have hx:v[k0+i.toNat]?=some v[k0+i.toNat]!:=by
   rw[qE1 (by omega),getElem!_pos v _ (by omega)]
  have hy:v[k0+(i-1).toNat]?=some v[k0+(i-1).toNat]!:=by
   rw[qE1 (by omega),getElem!_pos v _ (by omega)]
  have hz:v[0+k.toNat]?=some v[0+k.toNat]!:=by
   rw[qE1 (by omega),getElem!_pos v _ (by omega)]
  simp only[br_t]
  rw[gd_t ⟨by omega,hlt⟩,hx,bd_s,gd_t (inK64 (by omega) (by omega)),gd_t ⟨by omega,by omega⟩,hy,bd_s]
  cases(v[k0+i.toNat]! !=v[k0+(i-1).toNat]!)with
  | true=>
   rw[br_t,gd_t ⟨by omega,hlt⟩,bd_s,gd_t ⟨by omega,by omega⟩,hz,bd_s,gd_t (inK64 (by omega) (by omega)),bd_s]
   simp only
   rw[gd_t (inK64 (by omega) (by omega))]
   exact⟨_,rfl,⟨by simp[a1],rfl,by dsimp only;omega,by dsimp only;omega,by dsimp only;omega,by dsimp only;omega⟩,by dsimp only;omega⟩
  | false=>
   rw[br_f,bd_s]
   simp only
   rw[gd_t (inK64 (by omega) (by omega))]
   exact⟨_,rfl,⟨a1,rfl,by dsimp only;omega,by dsimp only;omega,by dsimp only;omega,by dsimp only;omega⟩,by dsimp only;omega⟩
 ·right
  rw[show decide (i<((l.length-k0:Nat):Int))=false by simpa using hlt]
  exact⟨_,rfl,a1,by dsimp only;omega,by dsimp only;omega⟩
def adj (l:List Int) (i:Nat):Bool:=l[i+1]? ==l[i]?
theorem compact_len {fuel:Nat} {l:List Int} (hl:l.length<=1048576) (hf:l.length<fuel):∃r,pG_slices_Compact_int fuel l=some r/\(((r.length:Int)==(l.length:Int))= !(List.range (l.length-1)).any (adj l)):=by
 unfold pG_slices_Compact_int
 by_cases h2:l.length<2
 ·rw[show decide ((l.length:Int)<2)=true by simp;omega,br_t]
  exact⟨l,rfl,by rw[show l.length-1=0 by omega];simp⟩
 ·rw[show decide ((l.length:Int)<2)=false by simp;omega,br_f]
  have key:∀(m fl i:Nat),l.length-i=m->1<=i->i<=l.length->m<fl->fl<=fuel->(∀j,j+1<i->adj l j=false)->∃o,loopF (pG_slices_Compact_int_b1 fuel) fl (l,(i:Int))=some o/\((o= .inl l/\∀j,j+1<l.length->adj l j=false)∨∃r,o= .inr r/\r.length<l.length/\∃j,j+1<l.length/\adj l j=true):=by
   intro m
   induction m with
   | zero=>
    intro fl i hm h1 hi hfl hle hj
    obtain rfl:i=l.length:=by omega
    cases fl with
    | zero=>omega
    | succ fl=>
     unfold loopF pG_slices_Compact_int_b1
     simp only[show decide ((l.length:Int)<(l.length:Int))=false by simp,br_f]
     exact⟨_,rfl,.inl ⟨rfl,hj⟩⟩
   | succ m ih=>
    intro fl i hm h1 hi hfl hle hj
    cases fl with
    | zero=>omega
    | succ fl=>
    have hlt:i<l.length:=by omega
    have hx:l[0+(i:Int).toNat]?=some l[i]:=by rw[show 0+(i:Int).toNat=i by omega];exact qE1 hlt
    have hy:l[0+((i:Int)-1).toNat]?=some l[i-1]:=by rw[show 0+((i:Int)-1).toNat=i-1 by omega];exact qE1 (by omega)
    have hadj:adj l (i-1)=(l[i]==l[i-1]):=by
     unfold adj
     rw[show i-1+1=i by omega,qE1 hlt,qE1 (show i-1<l.length by omega)]
     simp
    have ih:=ih fl (i+1) (by omega) (by omega) (by omega) (by omega) (by omega)
    unfold loopF
    generalize loopF (pG_slices_Compact_int_b1 fuel) fl=lf at ih⊢
    unfold pG_slices_Compact_int_b1
    simp only[show decide ((i:Int)<(l.length:Int))=true by simpa using hlt,br_t]
    rw[gd_t ⟨by omega,by omega⟩,hx,bd_s,gd_t (inK64 (by omega) (by omega)),gd_t ⟨by omega,by omega⟩,hy,bd_s]
    cases he:l[i]==l[i-1]with
    | true=>
     rw[br_t,gd_t ⟨by omega,by omega⟩]
     obtain⟨o,p1,p2,p3,p4⟩:=compact_inner fuel i l hl h1 hlt hf
     rw[show(0+(i:Int).toNat,l.length-(i:Int).toNat)=(i,l.length-i) by simp,p1,bd_s]
     obtain⟨o1,o2⟩:=o
     simp only at p2 p3 p4⊢
     rw[gd_t ⟨by omega,by omega⟩,gd_t ⟨by omega,by omega⟩]
     refine⟨_,rfl,.inr ⟨_,rfl,?_,i-1,by omega,by rw[hadj,he]⟩⟩
     rw[List.length_take];omega
    | false=>
     rw[br_f,gd_t (inK64 (by omega) (by omega))]
     simp only
     rw[show(i:Int)+1=((i+1:Nat):Int) by omega]
     exact ih fun j hj2=>by
      by_cases hji:j=i-1
      ·rw[hji,hadj,he]
      ·exact hj j (by omega)
  obtain⟨o,p1,p2⟩:=key (l.length-1) fuel 1 rfl (by omega) (by omega) (by omega) (Nat.le_refl _) (fun j hj=>by omega)
  rw[show(1:Int)=((1:Nat):Int)from rfl,p1]
  rcases p2 with⟨rfl,h3⟩ |⟨r,rfl,h3,j,h4,h5⟩
  ·refine⟨l,rfl,?_⟩
   rw[show(List.range (l.length-1)).any (adj l)=false from List.any_eq_false.2 fun j hj=>by rw[h3 j (by have:=List.mem_range.1 hj;omega)];simp]
   simp
  ·refine⟨r,rfl,?_⟩
   rw[show(List.range (l.length-1)).any (adj l)=true from List.any_eq_true.2 ⟨j,List.mem_range.2 (by omega),h5⟩]
   simp;omega
theorem sorted_adj:∀{l:List Int},l.Pairwise (·<=·)->((List.range (l.length-1)).any (adj l)=false↔l.Nodup)
 | [],_=>by simp
 | [x],_=>by simp
 | x::y::l,h=>by
  have ih:=sorted_adj (l:=y::l) (List.pairwise_cons.1 h).2
  have e:(List.range ((x::y::l).length-1)).any (adj (x::y::l))=((y==x)||(List.range ((y::l).length-1)).any (adj (y::l))):=by
   rw[show(x::y::l).length-1=((y::l).length-1)+1 by simp,List.range_succ_eq_map,List.any_cons,List.any_map]
   congr 1
  rw[e,Bool.or_eq_false_iff,ih,List.nodup_cons (a:=x)]
  constructor
  ·rintro⟨h1,h2⟩
   refine⟨fun hm=> ?_,h2⟩
   have h1:y≠x:=by simpa using h1
   rcases List.mem_cons.1 hm with rfl|hm
   ·exact h1 rfl
   ·have q1:=(List.pairwise_cons.1 h).1 y (by simp)
    have q2:=(List.pairwise_cons.1 (List.pairwise_cons.1 h).2).1 x hm
    omega
  ·rintro⟨h1,h2⟩
   refine⟨?_,h2⟩
   have:y≠x:=fun e=>h1 (by simp[e])
   simpa using this
theorem sort_ok {l:List Int} (hl:l.length<=1048576):pG_slices_Sort_int l=some (l.mergeSort fun x y=>decide (x<=y)):=by
 unfold pG_slices_Sort_int
 exact gd_t (by omega) _
theorem sort_pw (l:List Int):(l.mergeSort fun x y=>decide (x<=y)).Pairwise (·<=·):=by
 have:=List.pairwise_mergeSort (le:=fun(x y:Int)=>decide (x<=y)) (fun a b c h1 h2=>by simp at h1 h2⊢;omega) (fun a b=>by simp;omega) l
 exact this.imp fun h=>by simpa using h
def treeP (t:List INode):Prop:=t.length<=31/\(∃T:Tre,t=T.flat/\T.ok)/\(lvs t).Nodup
open Classical in
noncomputable def treeB (t:List INode):Bool:=decide (treeP t)
theorem treeB_iff:treeB t=true↔treeP t:=by unfold treeB;simp
theorem eq_treeB {b:Bool} (h:b=true↔treeP t):b=treeB t:=by rw[Bool.eq_iff_iff,treeB_iff];exact h
theorem endV_iff {n:Nat} (hn:t.length<=n):endV n t t=(t.length:Int)↔∃T:Tre,t=T.flat/\T.ok:=by
 unfold endV
 constructor
 ·intro h
  cases hp:prs n t with
  | none=>rw[hp]at h;simp only at h;omega
  | some p=>
   obtain⟨T,r⟩:=p
   rw[hp]at h
   simp only at h
   obtain⟨e,ho⟩:=prs_sound hp
   have:r=[]:=List.eq_nil_of_length_eq_zero (by omega)
   subst this
   exact⟨T,by simpa using e,ho⟩
 ·rintro⟨T,e,ho⟩
  have:=prs_complete (r:=[]) (n:=n) ho (by rw[<-e];exact hn)
  rw[List.append_nil,<-e]at this
  rw[this]
  simp
theorem pI_TreeOk_eq {fuel:Nat} (hf:2*t.length+100<fuel):pI_TreeOk fuel t=some (treeB t):=by
 unfold pI_TreeOk
 by_cases h31:t.length<=31
 ·have e1:decide ((31:Int)<(t.length:Int))=false:=by simp;omega
  have he:=endOf_at fuel t (by omega) fuel 0 (by omega) (by omega)
  rw[List.drop_zero]at he
  rw[show((0:Nat):Int)=0 from rfl]at he
  rw[e1,br_f,he,bd_s,bd_s]
  simp only
  by_cases hE:endV fuel t t=(t.length:Int)
  ·rw[show(endV fuel t t !=(t.length:Int))=false by simp[hE],br_f,pI_leaves_eq (by omega) (by omega),bd_s]
   have hl:=lvs_len t
   have hml:((lvs t).mergeSort fun x y=>decide (x<=y)).length=(lvs t).length:=List.length_mergeSort ..
   rw[sort_ok (by omega),bd_s,clone_int (roomB_of (by omega) (by decide)),bd_s]
   obtain⟨r,h1,h2⟩:=compact_len (fuel:=fuel) (l:=(lvs t).mergeSort fun x y=>decide (x<=y)) (by omega) (by omega)
   rw[h1,bd_s]
   rw[hml]at h2
   rw[h2]
   congr 1
   refine eq_treeB ?_
   have hs:=sorted_adj (sort_pw (lvs t))
   rw[hml]at hs
   rw[Bool.not_eq_true',hs,(List.mergeSort_perm (lvs t) _).nodup_iff]
   exact⟨fun h=>⟨h31,(endV_iff (by omega)).1 hE,h⟩,fun h=>h.2.2⟩
  ·rw[show(endV fuel t t !=(t.length:Int))=true by simp[hE],br_t]
   congr 1
   exact eq_treeB ⟨fun h=>(by cases h),fun h=>absurd ((endV_iff (by omega)).2 h.2.1) hE⟩
 ·have e1:decide ((31:Int)<(t.length:Int))=true:=by simp;omega
  rw[e1,br_t,bd_s]
  simp only[br_t]
  congr 1
  exact eq_treeB ⟨fun h=>(by cases h),fun h=>absurd h.1 h31⟩
def nodeOk (x:INode):Bool:=leafOk x||splitOk x
theorem leafOk_ne {x:INode} (h:leafOk x=true):x.Pane≠0:=by
 unfold leafOk at h
 simp only[Bool.and_eq_true,decide_eq_true_eq]at h
 omega
theorem splitOk_eq {x:INode} (h:splitOk x=true):x.Pane=0:=by
 unfold splitOk at h
 simp only[Bool.and_eq_true,beq_iff_eq]at h
 exact h.1
theorem ok_sh:∀{T:Tre},T.ok->T.sh/\∀x∈T.flat,nodeOk x=true
 | .leaf x,h=>⟨h.1,fun y hy=>by rw[List.mem_singleton.1 hy];unfold nodeOk;rw[h.2];rfl⟩
 | .node x a b,h=>by
  obtain⟨a1,a2⟩:=ok_sh h.2.1
  obtain⟨b1,b2⟩:=ok_sh h.2.2
  refine⟨⟨splitOk_eq h.1,a1,b1⟩,fun y hy=> ?_⟩
  rcases List.mem_cons.1 hy with rfl|hy
  ·unfold nodeOk;rw[h.1];simp
  ·rcases List.mem_append.1 hy with hy|hy
   ·exact a2 y hy
   ·exact b2 y hy
theorem sh_ok:∀{T:Tre},T.sh->(∀x∈T.flat,nodeOk x=true)->T.ok
 | .leaf x,h,hn=>by
  have:=hn x (by simp[Tre.flat])
  unfold nodeOk at this
  rw[Bool.or_eq_true]at this
  rcases this with h1|h1
  ·exact⟨h,h1⟩
  ·exact absurd (splitOk_eq h1) h
 | .node x a b,h,hn=>by
  have:=hn x (by simp[Tre.flat])
  unfold nodeOk at this
  rw[Bool.or_eq_true]at this
  rcases this with h1|h1
  ·exact absurd h.1 (leafOk_ne h1)
  ·exact⟨h1,sh_ok h.2.1 fun y hy=>hn y (by simp[Tre.flat,hy]),sh_ok h.2.2 fun y hy=>hn y (by simp[Tre.flat,hy])⟩
theorem cntV_iff:cntV 1 t t=(t.length:Int)↔∃T:Tre,t=T.flat/\T.sh:=by
 unfold cntV
 constructor
 ·intro h
  cases hp:cnt 1 t with
  | none=>rw[hp]at h;simp only at h;omega
  | some r=>
   rw[hp]at h
   simp only at h
   obtain⟨Ts,h1,h2,h3⟩:=cnt_conv (Nat.le_refl 1) hp
   have:r=[]:=List.eq_nil_of_length_eq_zero (by omega)
   subst this
   match Ts,h1 with
   | [T],_=>exact⟨T,by simpa using h3,h2 T (by simp)⟩
 ·rintro⟨T,e,hs⟩
  have:=cnt_flat (r:=[]) hs (Nat.le_refl 1)
  rw[List.append_nil,<-e,if_pos rfl]at this
  rw[this]
  simp
def badB (t:List INode) (i:Nat):Bool:=match t[i]? with
 | some x=> !nodeOk x||(leafOk x&&(lvs (t.take i)).any fun y=>y==x.Pane)
 | none=>false
theorem bad_iff {t:List INode} (hn:∀x∈t,nodeOk x=true):∀n,n<=t.length->((List.range n).any (badB t)=false↔(lvs (t.take n)).Nodup)
 | 0,_=>by simp[lvs]
 | n+1,h=>by
  have hlt:n<t.length:=by omega
  have hx:t[n]?=some t[n]:=qE1 hlt
  have ih:=bad_iff hn n (by omega)
  have hxm:t[n]∈t:=List.getElem_mem hlt
  rw[List.range_succ,List.any_append,Bool.or_eq_false_iff,ih,take_succ_get hx,lvs_app,lvs_one,List.any_cons,List.any_nil,Bool.or_false]
  unfold badB
  rw[hx]
  have hno:=hn _ hxm
  generalize t[n]=x at hno
  simp only[hno,Bool.not_true,Bool.false_or]
  by_cases h0:x.Pane=0
  ·rw[if_pos h0,List.append_nil]
   have:leafOk x=false:=by
    cases hl:leafOk x with
    | false=>rfl
    | true=>exact absurd h0 (leafOk_ne hl)
   rw[this]
   simp
  ·have hl:leafOk x=true:=by
    unfold nodeOk at hno
    rw[Bool.or_eq_true]at hno
    exact hno.resolve_right fun h=>h0 (splitOk_eq h)
   rw[if_neg h0,hl,Bool.true_and,List.any_eq_false,List.nodup_append]
   constructor
   ·rintro⟨h1,h2⟩
    exact⟨h1,by simp,fun y hy z hz e=>h2 y hy (by rw[List.mem_singleton.1 hz]at e;simp[e])⟩
   ·rintro⟨h1,_,h2⟩
    exact⟨h1,fun y hy e=>h2 y hy x.Pane (by simp) (by simpa using e)⟩
theorem badB_false_node (h:(List.range t.length).any (badB t)=false):∀x∈t,nodeOk x=true:=fun x hx=>by
 obtain⟨i,hi⟩:=List.getElem?_of_mem hx
 have hlt:=(qS1.1 hi).1
 have:=List.any_eq_false.1 h i (List.mem_range.2 hlt)
 unfold badB at this
 rw[hi]at this
 simp only[Bool.not_eq_true,Bool.or_eq_false_iff,Bool.not_eq_false']at this
 exact this.1
theorem br4 (f:Bool->α) (a b d e:Bool):br a (br b (br d (some (f e)) (some (f false))) (some (f false))) (some (f false))=some (f ((a&&b)&&(d&&e))):=by cases a<;>cases b<;>cases d<;>rfl
theorem br3 (f:Bool->α) (a b e:Bool):br a (br b (some (f e)) (some (f false))) (some (f false))=some (f (a&&(b&&e))):=by cases a<;>cases b<;>rfl
theorem pS_TreeOk_step {fuel:Nat} (ht:t.length<=1048576) (hf:t.length<fuel) (hi:i<t.length):pS_TreeOk_b1 fuel (lvs (t.take i),t,(t.length:Int),(i:Int))=if badB t i then some (.inr (.inr false))else some (.inl (lvs (t.take (i+1)),t,(t.length:Int),((i+1:Nat):Int))):=by
 have hx:t[i]?=some t[i]:=qE1 hi
 obtain⟨h1,h2,h3,h4,h5⟩:=idx_facts hx (by omega)
 have hll:(lvs (t.take i)).length<=i:=by have:=lvs_len (t.take i);rw[List.length_take]at this;omega
 rw[take_succ_get hx,lvs_app,lvs_one]
 have hb:badB t i=(!nodeOk t[i]||(leafOk t[i]&&(lvs (t.take i)).any fun y=>y==t[i].Pane)):=by unfold badB;rw[hx]
 rw[hb]
 generalize t[i]=x at hx h3
 have hhas:pS_l02HasInt fuel (lvs (t.take i)) x.Pane=some ((lvs (t.take i)).any fun y=>y==x.Pane):=hasInt_eq (by omega) (by omega)
 have hr:roomB K.int (lvs (t.take i)++ [x.Pane]).length:=roomB_of (by simp;omega) (by decide)
 unfold pS_TreeOk_b1
 simp only[h1,br_t,gd_t h2,h3,bd_s]
 have q1:leafOk x=(decide (1<=x.Pane)&&decide (x.Pane<=1000000)&&(!x.Down&&x.First==0)):=rfl
 have q2:splitOk x=(x.Pane==0&&(decide (1<=x.First)&&decide (x.First<=120))):=rfl
 have k1:=br4 (fun z=>(x,lvs (t.take i),z,t,(t.length:Int),(i:Int))) (decide (1<=x.Pane)) (decide (x.Pane<=1000000)) (!x.Down) (x.First==0)
 have k2:=br3 (fun z=>(x,lvs (t.take i),leafOk x,z,t,(t.length:Int),(i:Int))) (x.Pane==0) (decide (1<=x.First)) (decide (x.First<=120))
 rw[k1,<-q1,bd_s]
 dsimp only
 rw[k2,<-q2,bd_s]
 dsimp only
 unfold nodeOk
 cases hl:leafOk x with
 | true=>
  have h0:=leafOk_ne hl
  have hs:splitOk x=false:=by
   cases hs:splitOk x with
   | false=>rfl
   | true=>exact absurd (splitOk_eq hs) h0
  simp only[br_t,br_f,bd_s,Bool.not_true,hhas,hs,Bool.or_false,Bool.false_or,Bool.true_and]
  cases(lvs (t.take i)).any fun y=>y==x.Pane with
  | true=>simp
  | false=>
   simp only[br_f,br_t,gd_t hr,jn_l]
   rw[h5,gd_t h4,if_neg h0]
   simp
 | false=>
  cases hs:splitOk x with
  | true=>
   have h0:=splitOk_eq hs
   simp only[br_t,br_f,bd_s,Bool.not_false,Bool.not_true,jn_l,Bool.false_or,Bool.false_and]
   rw[h5,gd_t h4,if_pos h0]
   simp
  | false=>simp
theorem pS_TreeOk_eq {fuel:Nat} (hf:2*t.length+100<fuel):pS_TreeOk fuel t=some (treeB t):=by
 unfold pS_TreeOk
 by_cases h31:t.length<=31
 ·have e1:decide ((31:Int)<(t.length:Int))=false:=by simp;omega
  have he:=l13End_eq (fuel:=fuel) (t:=t) (i:=0) (by omega) (by omega) (by omega)
  rw[List.drop_zero]at he
  rw[show((0:Nat):Int)=0 from rfl]at he
  rw[e1,br_f,he,bd_s,bd_s]
  simp only
  by_cases hE:cntV 1 t t=(t.length:Int)
  ·rw[show(cntV 1 t t !=(t.length:Int))=false by simp[hE],br_f]
   have hsc:loopF (pS_TreeOk_b1 fuel) fuel ([],t,(t.length:Int),0)=some (if(List.range t.length).any (badB t)then .inr false else .inl ()):=
    loopF_scan (fun i=>(lvs (t.take i),t,(t.length:Int),(i:Int))) t.length (badB t) _ _ rfl (fun i hi=>pS_TreeOk_step (by omega) (by omega) hi) (by unfold pS_TreeOk_b1;simp) (by omega)
   rw[hsc]
   have hb:(!(List.range t.length).any (badB t))=treeB t:=by
    refine eq_treeB ?_
    rw[Bool.not_eq_true']
    constructor
    ·intro h
     have hn:=badB_false_node h
     obtain⟨T,e,hs⟩:=cntV_iff.1 hE
     refine⟨h31,⟨T,e,sh_ok hs fun x hx=>hn x (by rw[e];exact hx)⟩,?_⟩
     have:=(bad_iff hn t.length (Nat.le_refl _)).1 h
     rwa[List.take_length]at this
    ·rintro⟨_,⟨T,e,ho⟩,hd⟩
     refine(bad_iff (fun x hx=>(ok_sh ho).2 x (by rw[<-e];exact hx)) t.length (Nat.le_refl _)).2 ?_
     rwa[List.take_length]
   rw[<-hb]
   cases(List.range t.length).any (badB t)<;>rfl
  ·rw[show(cntV 1 t t !=(t.length:Int))=true by simp[hE],br_t]
   congr 1
   refine eq_treeB ⟨fun h=>(by cases h),fun h=> ?_⟩
   obtain⟨T,e,ho⟩:=h.2.1
   exact absurd (cntV_iff.2 ⟨T,e,(ok_sh ho).1⟩) hE
 ·have e1:decide ((31:Int)<(t.length:Int))=true:=by simp;omega
  rw[e1,br_t,bd_s]
  simp only[br_t]
  congr 1
  exact eq_treeB ⟨fun h=>(by cases h),fun h=>absurd h.1 h31⟩
abbrev Qd:=Int×Int×Int×Int
def mn (f n:Int):Int:=if n-2<f then n-2 else f
def f1 (x:INode) (q:Qd):Qd:=if x.Down=true then(q.1,q.2.1,q.2.2.1,mn x.First q.2.2.2)else(q.1,q.2.1,mn x.First q.2.2.1,q.2.2.2)
def f2 (x:INode) (q:Qd):Qd:=if x.Down=true then(q.1,q.2.1+mn x.First q.2.2.2+1,q.2.2.1,q.2.2.2-mn x.First q.2.2.2-1)else(q.1+mn x.First q.2.2.1+1,q.2.1,q.2.2.1-mn x.First q.2.2.1-1,q.2.2.2)
def room (x:INode) (q:Qd):Bool:=decide (3<=if x.Down=true then q.2.2.2 else q.2.2.1)
def mkR (p:Int) (q:Qd):IRect:=IRect.mk p q.1 q.2.1 q.2.2.1 q.2.2.2
def rq (r:IRect):Qd:=(r.X,r.Y,r.W,r.H)
def Tre.fits:Tre->Qd->Bool
 | .leaf _,_=>true
 | .node x a b,q=>room x q&&(a.fits (f1 x q)&&b.fits (f2 x q))
def Tre.all:Tre->Qd->List IRect
 | .leaf x,q=> [mkR x.Pane q]
 | .node x a b,q=>mkR x.Pane q::(a.all (f1 x q)++b.all (f2 x q))
def Tre.lf:Tre->Qd->List IRect
 | .leaf x,q=> [mkR x.Pane q]
 | .node x a b,q=>a.lf (f1 x q)++b.lf (f2 x q)
def qOk (q:Qd):Prop:=0<=q.1/\0<=q.2.1/\1<=q.2.2.1/\1<=q.2.2.2/\q.1+q.2.2.1<=1000/\q.2.1+q.2.2.2<=1000
theorem qOk_part {x:INode} {q:Qd} (h:qOk q) (hr:room x q=true) (hf:1<=x.First):qOk (f1 x q)/\qOk (f2 x q):=by
 obtain⟨X,Y,W,H⟩:=q
 unfold qOk at h
 unfold room at hr
 simp only[decide_eq_true_eq]at hr h
 unfold qOk f1 f2 mn
 cases hd:x.Down with
 | true=>
  rw[hd]at hr
  simp only[if_true]at hr⊢
  split<;>omega
 | false=>
  rw[hd]at hr
  simp only[if_false,Bool.false_eq_true]at hr⊢
  split<;>omega
theorem mn_bounds {f n:Int} (h1:1<=f) (h2:f<=120) (h3:1<=n) (h4:n<=1000): -1<=mn f n/\mn f n<=120:=by
 unfold mn;split<;>omega
theorem splitOk_first {x:INode} (h:splitOk x=true):1<=x.First/\x.First<=120:=by
 unfold splitOk at h
 simp only[Bool.and_eq_true,decide_eq_true_eq]at h
 exact h.2
theorem partsOf_eq (fuel:Nat) {x:INode} {r:IRect} (hq:qOk (rq r)) (h1:1<=x.First) (h2:x.First<=120):pI_partsOf fuel x r=some (mkR r.Pane (f1 x (rq r)),mkR r.Pane (f2 x (rq r)),room x (rq r)):=by
 obtain⟨P,X,Y,W,H⟩:=r
 unfold qOk rq at hq
 simp only at hq
 have bH:=mn_bounds h1 h2 hq.2.2.2.1 (show H<=1000 by omega)
 have bW:=mn_bounds h1 h2 hq.2.2.1 (show W<=1000 by omega)
 unfold pI_partsOf mkR f1 f2 room rq mn
 unfold mn at bH bW
 cases hd:x.Down with
 | true=>
  simp only[br_t,bd_s,hd,if_true]
  rw[gd_p (inK64 (by omega) (by omega)),gd_p (inK64 (by omega) (by omega)),gd_p (inK64 (by omega) (by omega)),gd_p (inK64 (by omega) (by omega)),gd_p (inK64 (by omega) (by omega)),bd_s]
 | false=>
  simp only[br_f,bd_s,hd,if_false,Bool.false_eq_true]
  rw[gd_p (inK64 (by omega) (by omega)),gd_p (inK64 (by omega) (by omega)),gd_p (inK64 (by omega) (by omega)),gd_p (inK64 (by omega) (by omega)),gd_p (inK64 (by omega) (by omega)),bd_s]
theorem drop_node {x:INode} {a b:Tre} (h:t.drop i=(Tre.node x a b).flat++rest):t[i]?=some x/\t.drop (i+1)=a.flat++(b.flat++rest)/\t.drop (i+1+a.flat.length)=b.flat++rest/\i+1+a.flat.length+b.flat.length<=t.length:=by
 have h:t.drop i=x::(a.flat++(b.flat++rest)):=by rw[h];simp[Tre.flat]
 have e1:t[i]?=some x:=by
  have:(t.drop i)[0]?=some x:=by rw[h];rfl
  rwa[List.getElem?_drop,Nat.add_zero]at this
 have e2:t.drop (i+1)=a.flat++(b.flat++rest):=by
  have:=drop_get e1
  rw[h]at this
  exact(List.cons.inj this).2.symm
 have e3:t.drop (i+1+a.flat.length)=b.flat++rest:=by
  rw[<-List.drop_drop,e2,List.drop_left]
 refine⟨e1,e2,e3,?_⟩
 have hi:=(qS1.1 e1).1
 have:=congrArg List.length e2
 simp only[List.length_drop,List.length_append]at this
 omega
theorem drop_leaf {x:INode} (h:t.drop i=(Tre.leaf x).flat++rest):t[i]?=some x:=by
 have:(t.drop i)[0]?=some x:=by rw[h];rfl
 rwa[List.getElem?_drop,Nat.add_zero]at this
theorem end_at {fuel:Nat} {a:Tre} (ht:t.length<=1048576) (hf:2*t.length+100<fuel) (ha:a.ok) (h:t.drop i=a.flat++rest) (hi:i<=t.length) :
  recF (pI_endOf fuel) fuel (t,(i:Int))=some ((i+a.flat.length:Nat):Int)/\pS_l13End fuel t (i:Int)=some ((i+a.flat.length:Nat):Int):=by
 have hl:=congrArg List.length h
 simp only[List.length_drop,List.length_append]at hl
 constructor
 ·rw[endOf_at fuel t ht fuel i hi (by omega)]
  unfold endV
  rw[h,prs_complete ha (by omega)]
  simp only
  congr 1
  omega
 ·rw[l13End_eq ht hi (by omega)]
  unfold cntV
  rw[h,cnt_flat (ok_sh ha).1 (Nat.le_refl 1),if_pos rfl]
  simp only
  congr 1
  omega
theorem put_at (fuel:Nat) (t:List INode) (ht:t.length<=1048576) (hf:2*t.length+100<fuel):∀(T:Tre) (n i:Nat) (rest:List INode) (r:IRect) (out:List IRect),T.ok->t.drop i=T.flat++rest->T.flat.length<=n->qOk (rq r)->out.length+T.flat.length<=1048600->
  ∃o,recF (pI_areasOf_1 fuel) n ((i:Int),r,t,out,true,())=some (t,o,T.fits (rq r),())/\(T.fits (rq r)=true->o=out++T.all (rq r))/\o.length<=out.length+T.flat.length
 | .leaf x,0,i,rest,r,out,ho,hd,hn,hq,hb=>by simp[Tre.flat]at hn
 | .leaf x,n+1,i,rest,r,out,ho,hd,hn,hq,hb=>by
  have hx:=drop_leaf hd
  obtain⟨h1,h2,h3,h4,h5⟩:=idx_facts hx (by omega)
  have hl:(Tre.leaf x).flat.length=1:=rfl
  rw[hl]at hb
  have hr:roomB K.iRect (out++ [IRect.mk x.Pane r.X r.Y r.W r.H]).length:=roomB_of (by simp;omega) (by decide)
  have e1:(x.Pane !=0)=true:=by simpa using ho.1
  refine⟨out++ [IRect.mk x.Pane r.X r.Y r.W r.H],?_,fun _=>rfl,by simp[Tre.flat]⟩
  show pI_areasOf_1 fuel (recF (pI_areasOf_1 fuel) n) _=_
  generalize recF (pI_areasOf_1 fuel) n=slf
  unfold pI_areasOf_1 pI_Node_isLeaf
  simp only[gd_t h2,h3,bd_s,gd_t hr,e1,br_t]
  rfl
 | .node x a b,0,i,rest,r,out,ho,hd,hn,hq,hb=>by simp[Tre.flat]at hn
 | .node x a b,n+1,i,rest,r,out,ho,hd,hn,hq,hb=>by
  obtain⟨hx,hd1,hd2,hle⟩:=drop_node hd
  obtain⟨h1,h2,h3,h4,h5⟩:=idx_facts hx (by omega)
  have hl:(Tre.node x a b).flat.length=a.flat.length+b.flat.length+1:=by simp[Tre.flat]
  rw[hl]at hb hn
  have hr:roomB K.iRect (out++ [IRect.mk x.Pane r.X r.Y r.W r.H]).length:=roomB_of (by simp;omega) (by decide)
  have h0:=splitOk_eq ho.1
  obtain⟨hf1,hf2⟩:=splitOk_first ho.1
  have e1:(x.Pane !=0)=false:=by simp[h0]
  have hpo:=partsOf_eq fuel (x:=x) (r:=IRect.mk x.Pane r.X r.Y r.W r.H) hq hf1 hf2
  have iha:=put_at fuel t ht hf a n (i+1) (b.flat++rest) (mkR x.Pane (f1 x (rq r))) (out++ [IRect.mk x.Pane r.X r.Y r.W r.H]) ho.2.1 hd1 (by omega)
  have ihb:=fun o=>put_at fuel t ht hf b n (i+1+a.flat.length) rest (mkR x.Pane (f2 x (rq r))) o ho.2.2 hd2 (by omega)
  have hend:=(end_at (fuel:=fuel) (i:=i+1) ht hf ho.2.1 hd1 (by omega)).1
  rw[hl]
  unfold Tre.fits
  show∃o,pI_areasOf_1 fuel (recF (pI_areasOf_1 fuel) n) _=_/\_
  generalize recF (pI_areasOf_1 fuel) n=slf at iha ihb⊢
  unfold pI_areasOf_1 pI_Node_isLeaf
  simp only[gd_t h2,h3,bd_s,gd_t hr,e1,br_f,Bool.not_true]
  rw[hpo,bd_s]
  simp only
  have erq:rq (IRect.mk x.Pane r.X r.Y r.W r.H)=rq r:=rfl
  rw[erq]
  cases hro:room x (rq r)with
  | false=>
   simp only[Bool.not_false,br_t,Bool.false_and]
   exact⟨_,rfl,fun h=>(by cases h),by simp⟩
  | true=>
   obtain⟨q1,q2⟩:=qOk_part hq hro hf1
   simp only[Bool.not_true,br_f,Bool.true_and]
   rw[h5,gd_t h4]
   obtain⟨oa,a1,a2,a3⟩:=iha q1 (by simp;omega)
   have erf:rq (mkR x.Pane (f1 x (rq r)))=f1 x (rq r):=rfl
   have erg:rq (mkR x.Pane (f2 x (rq r)))=f2 x (rq r):=rfl
   rw[erf]at a1 a2
   rw[a1,bd_s]
   simp only
   simp only[List.length_append,List.length_singleton]at a3
   cases hfa:a.fits (f1 x (rq r))with
   | false=>
    simp only[br_f,Bool.false_and]
    exact⟨oa,rfl,fun h=>(by cases h),by omega⟩
   | true=>
    simp only[br_t,Bool.true_and]
    rw[gd_t h4,hend,bd_s]
    obtain⟨ob,b1,b2,b3⟩:=ihb oa q2 (by omega)
    rw[erg]at b1 b2
    rw[b1,bd_s]
    refine⟨ob,rfl,fun h=> ?_,by omega⟩
    rw[b2 h,a2 hfa]
    simp[Tre.all,mkR,rq]
theorem place_at (fuel:Nat) (t:List INode) (ht:t.length<=1048576) (hf:2*t.length+100<fuel):∀(T:Tre) (n i:Nat) (rest:List INode) (r:IRect),T.ok->t.drop i=T.flat++rest->T.flat.length<=n->qOk (rq r)->
  ∃l,recF (pS_l13Place fuel) n (t,(i:Int),r)=some (l,T.fits (rq r))/\(T.fits (rq r)=true->l=T.lf (rq r))/\l.length<=T.flat.length
 | .leaf x,0,i,rest,r,ho,hd,hn,hq=>by simp[Tre.flat]at hn
 | .leaf x,n+1,i,rest,r,ho,hd,hn,hq=>by
  have hx:=drop_leaf hd
  obtain⟨h1,h2,h3,h4,h5⟩:=idx_facts hx (by omega)
  have e1:decide (0<x.Pane)=true:=by
   have:=ho.2
   unfold leafOk at this
   simp only[Bool.and_eq_true,decide_eq_true_eq]at this
   simp;omega
  refine⟨[IRect.mk x.Pane r.X r.Y r.W r.H],?_,fun _=>rfl,by simp[Tre.flat]⟩
  show pS_l13Place fuel (recF (pS_l13Place fuel) n) _=_
  generalize recF (pS_l13Place fuel) n=slf
  unfold pS_l13Place
  simp only[gd_t h2,h3,bd_s,e1,br_t]
  rfl
 | .node x a b,0,i,rest,r,ho,hd,hn,hq=>by simp[Tre.flat]at hn
 | .node x a b,n+1,i,rest,r,ho,hd,hn,hq=>by
  obtain⟨hx,hd1,hd2,hle⟩:=drop_node hd
  obtain⟨h1,h2,h3,h4,h5⟩:=idx_facts hx (by omega)
  have hl:(Tre.node x a b).flat.length=a.flat.length+b.flat.length+1:=by simp[Tre.flat]
  rw[hl]at hn
  have h0:=splitOk_eq ho.1
  obtain⟨hf1,hf2⟩:=splitOk_first ho.1
  have e1:decide (0<x.Pane)=false:=by simp[h0]
  have iha:=place_at fuel t ht hf a n (i+1) (b.flat++rest) (mkR r.Pane (f1 x (rq r))) ho.2.1 hd1 (by omega)
  have ihb:=place_at fuel t ht hf b n (i+1+a.flat.length) rest (mkR r.Pane (f2 x (rq r))) ho.2.2 hd2 (by omega)
  have hend:=(end_at (fuel:=fuel) (i:=i+1) ht hf ho.2.1 hd1 (by omega)).2
  rw[hl]
  have erf:rq (mkR r.Pane (f1 x (rq r)))=f1 x (rq r):=rfl
  have erg:rq (mkR r.Pane (f2 x (rq r)))=f2 x (rq r):=rfl
  rw[erf]at iha
  rw[erg]at ihb
  unfold Tre.fits
  show∃l,pS_l13Place fuel (recF (pS_l13Place fuel) n) _=_/\_
  generalize recF (pS_l13Place fuel) n=slf at iha ihb⊢
  generalize hle:pS_l13End fuel=le at hend
  unfold pS_l13Place pS_l13First
  rw[hle]
  simp only[gd_t h2,h3,bd_s,e1,br_f]
  have parts:∀K:IRect×IRect×List INode×Int->Option (List IRect×Bool),jn (V:=IRect×IRect×List INode×Int) (
    br x.Down (br (decide (r.H<3)) (some (.inr ([],false))) (bd (gd (inK IntKind.i64 (r.H-2)) (br (decide (r.H-2<x.First)) (gd (inK IntKind.i64 (r.H-2)) (some (r.H-2))) (some x.First))) fun x5=>
     gd (inK IntKind.i64 (r.Y+x5)) (gd (inK IntKind.i64 (r.Y+x5+1)) (gd (inK IntKind.i64 (r.H-x5)) (gd (inK IntKind.i64 (r.H-x5-1)) (some (.inl (IRect.mk r.Pane r.X r.Y r.W x5,IRect.mk r.Pane r.X (r.Y+x5+1) r.W (r.H-x5-1),t,(i:Int)))))))))
    (br (decide (r.W<3)) (some (.inr ([],false))) (bd (gd (inK IntKind.i64 (r.W-2)) (br (decide (r.W-2<x.First)) (gd (inK IntKind.i64 (r.W-2)) (some (r.W-2))) (some x.First))) fun x6=>
     gd (inK IntKind.i64 (r.X+x6)) (gd (inK IntKind.i64 (r.X+x6+1)) (gd (inK IntKind.i64 (r.W-x6)) (gd (inK IntKind.i64 (r.W-x6-1)) (some (.inl (IRect.mk r.Pane r.X r.Y x6 r.H,IRect.mk r.Pane (r.X+x6+1) r.Y (r.W-x6-1) r.H,t,(i:Int)))))))))) K
    = if room x (rq r)=true then K (mkR r.Pane (f1 x (rq r)),mkR r.Pane (f2 x (rq r)),t,(i:Int))else some ([],false):=by
   intro K
   obtain⟨P,X,Y,W,H⟩:=r
   unfold qOk rq at hq
   simp only at hq
   have fst:∀n:Int,1<=n->n<=1000->gd (inK IntKind.i64 (n-2)) (br (decide (n-2<x.First)) (gd (inK IntKind.i64 (n-2)) (some (n-2))) (some x.First))=some (mn x.First n):=by
    intro n hn1 hn2
    rw[gd_t (inK64 (by omega) (by omega)),gd_t (inK64 (by omega) (by omega))]
    unfold mn
    by_cases hc:n-2<x.First
    ·simp[hc]
    ·simp[hc]
   have bH:=mn_bounds hf1 hf2 hq.2.2.2.1 (show H<=1000 by omega)
   have bW:=mn_bounds hf1 hf2 hq.2.2.1 (show W<=1000 by omega)
   simp only[fst H (by omega) (by omega),fst W (by omega) (by omega),bd_s]
   unfold mkR f1 f2 room rq
   simp only
   cases hdn:x.Down with
   | true=>
    simp only[br_t,if_true]
    by_cases h3:H<3
    ·rw[show decide (H<3)=true by simpa using h3,br_t,if_neg (by simp;omega)];rfl
    ·rw[show decide (H<3)=false by simpa using h3,br_f,gd_t (inK64 (by omega) (by omega)),gd_t (inK64 (by omega) (by omega)),gd_t (inK64 (by omega) (by omega)),gd_t (inK64 (by omega) (by omega)),jn_l,if_pos (by simp;omega)]
   | false=>
    simp only[br_f,if_false,Bool.false_eq_true]
    by_cases h3:W<3
    ·rw[show decide (W<3)=true by simpa using h3,br_t,if_neg (by simp;omega)];rfl
    ·rw[show decide (W<3)=false by simpa using h3,br_f,gd_t (inK64 (by omega) (by omega)),gd_t (inK64 (by omega) (by omega)),gd_t (inK64 (by omega) (by omega)),gd_t (inK64 (by omega) (by omega)),jn_l,if_pos (by simp;omega)]
  rw[parts]
  cases hro:room x (rq r)with
  | false=>
   simp only[Bool.false_eq_true,if_false,Bool.false_and]
   exact⟨[],rfl,fun h=>(by cases h),by simp⟩
  | true=>
   obtain⟨q1,q2⟩:=qOk_part hq hro hf1
   simp only[if_true,Bool.true_and]
   rw[h5,gd_t h4]
   obtain⟨la,a1,a2,a3⟩:=iha q1
   obtain⟨lb,b1,b2,b3⟩:=ihb q2
   rw[a1,bd_s]
   simp only
   rw[gd_t h4,hend,bd_s,b1,bd_s]
   simp only
   rw[gd_t (roomB_of (by simp;omega) (by decide))]
   have hlen:(la++lb).length<=a.flat.length+b.flat.length+1:=by simp;omega
   cases hfa:a.fits (f1 x (rq r))with
   | false=>
    simp only[br_f,bd_s,Bool.false_and]
    exact⟨_,rfl,fun h=>(by cases h),hlen⟩
   | true=>
    simp only[br_t,bd_s,Bool.true_and]
    exact⟨_,rfl,fun h=>by rw[a2 hfa,b2 h];rfl,hlen⟩
instance:Inhabited IRect:=⟨IRect.mk 0 0 0 0 0⟩
theorem all_lf:∀{T:Tre} {q:Qd},T.ok->(T.all q).filter (fun r=> !(r.Pane==0))=T.lf q
 | .leaf x,q,h=>by
  have e:(mkR x.Pane q).Pane≠0:=h.1
  show [mkR x.Pane q].filter _=[mkR x.Pane q]
  simp[e]
 | .node x a b,q,h=>by
  have e:(mkR x.Pane q).Pane=0:=splitOk_eq h.1
  show(mkR x.Pane q::(a.all (f1 x q)++b.all (f2 x q))).filter _=a.lf (f1 x q)++b.lf (f2 x q)
  rw[List.filter_cons]
  simp only[e,beq_self_eq_true,Bool.not_true,Bool.false_eq_true,if_false,List.filter_append]
  rw[all_lf h.2.1,all_lf h.2.2]
theorem all_len:∀(T:Tre) (q:Qd),(T.all q).length=T.flat.length
 | .leaf x,q=>rfl
 | .node x a b,q=>by simp[Tre.all,Tre.flat,all_len a,all_len b]
theorem deleteFunc_eq {fuel:Nat} {l:List IRect} (hl:l.length<=1048600) (hf:l.length<fuel):pG_slices_DeleteFunc_IRect_I_Places_1 fuel l=some (l.filter fun r=> !(r.Pane==0)):=by
 unfold pG_slices_DeleteFunc_IRect_I_Places_1 pG_slices_IndexFunc_IRect_I_Places_1
 rcases loopF_find (B:=pG_slices_IndexFunc_IRect_I_Places_1_b1 fuel) (fun i=>(l,(l.length:Int),(i:Int))) l (fun x=>x.Pane==0) (fun i=> .inr (i:Int)) (.inl ()) (fuel:=fuel) (v:=(l,(l.length:Int),0)) rfl (fun i x hx=>by
  obtain⟨h1,h2,h3,h4,h5⟩:=idx_facts hx (by omega)
  unfold pG_slices_IndexFunc_IRect_I_Places_1_b1 pI_Places_1
  simp only[h1,br_t,gd_t h2,h3,bd_s,h5,gd_t h4]
  cases x.Pane==0<;>rfl) (by
  unfold pG_slices_IndexFunc_IRect_I_Places_1_b1
  simp) hf with⟨i,x,h1,h2,h3,h4⟩ |⟨h1,h2⟩
 ·have hi:=(qS1.1 h1).1
  rw[h4]
  simp only[jn_r,bd_s]
  rw[show((i:Int)== -1)=false by simp,br_f,gd_t (inK64 (by omega) (by omega))]
  have hfirst:l.take i=(l.take (i+1)).filter fun r=> !(r.Pane==0):=by
   rw[take_succ_get h1,List.filter_append]
   have e1:(l.take i).filter (fun r=> !(r.Pane==0))=l.take i:=List.filter_eq_self.2 fun y hy=>by
    obtain⟨j,hj⟩:=List.getElem?_of_mem hy
    have hji:j<i:=by have:=(qS1.1 hj).1;simp at this;omega
    rw[List.getElem?_take,if_pos hji]at hj
    rw[h3 j y hji hj];rfl
   rw[e1]
   simp[h2]
  obtain⟨o,p1,p2,p3,p4,p5⟩:=loopF_inv (V:=List IRect×Int×Int) (O:=List IRect×Int) (B:=pG_slices_DeleteFunc_IRect_I_Places_1_b1 fuel)
   (fun v=>v.1.length=l.length/\0<=v.2.1/\v.2.1<v.2.2/\v.2.2<=(l.length:Int)/\v.1.take v.2.1.toNat=(l.take v.2.2.toNat).filter (fun r=> !(r.Pane==0))/\v.1.drop v.2.2.toNat=l.drop v.2.2.toNat)
   (fun v=>((l.length:Int)-v.2.2).toNat) (fun o=>o.1.length=l.length/\0<=o.2/\o.2<=(l.length:Int)/\o.1.take o.2.toNat=l.filter (fun r=> !(r.Pane==0))) (by
    rintro⟨v,k,j⟩ ⟨a1,a2,a3,a4,a5,a6⟩
    simp only at a1 a2 a3 a4 a5 a6⊢
    unfold pG_slices_DeleteFunc_IRect_I_Places_1_b1
    simp only
    by_cases hlt:j<(l.length:Int)
    ·left
     rw[show decide (j<(v.length:Int))=true by simp;omega,br_t,gd_t ⟨by omega,by omega⟩]
     have hjl:l[j.toNat]?=some l[j.toNat]!:=by rw[qE1 (by omega),getElem!_pos l _ (by omega)]
     have hjv:v[0+j.toNat]?=some l[j.toNat]!:=by
      rw[<-hjl,Nat.zero_add]
      have e1:=List.getElem?_drop (xs:=v) (i:=j.toNat) (j:=0)
      have e2:=List.getElem?_drop (xs:=l) (i:=j.toNat) (j:=0)
      rw[a6]at e1
      rw[Nat.add_zero]at e1 e2
      rw[<-e1,<-e2]
     have hkv:v[0+k.toNat]?=some v[k.toNat]!:=by rw[Nat.zero_add,qE1 (by omega),getElem!_pos v _ (by omega)]
     have hd:v.drop (j+1).toNat=l.drop (j+1).toNat:=by
      have e:(j+1).toNat=j.toNat+1:=by omega
      rw[e,<-List.drop_drop,<-List.drop_drop,a6]
     have ht:l.take (j+1).toNat=l.take j.toNat++ [l[j.toNat]!]:=by
      rw[show(j+1).toNat=j.toNat+1 by omega,take_succ_get hjl]
     rw[hjv,bd_s]
     unfold pI_Places_1
     rw[bd_s]
     generalize l[j.toNat]! = x9 at *
     cases hx9:(x9.Pane==0)with
     | true=>
      simp only[Bool.not_true,br_f,bd_s]
      rw[gd_t (inK64 (by omega) (by omega))]
      refine⟨_,rfl,⟨a1,a2,by dsimp only;omega,by dsimp only;omega,?_,hd⟩,by dsimp only;omega⟩
      dsimp only
      rw[ht,List.filter_append,<-a5]
      simp[hx9]
     | false=>
      simp only[Bool.not_false,br_t]
      rw[gd_t ⟨by omega,by omega⟩,hkv,bd_s,gd_t (inK64 (by omega) (by omega)),bd_s]
      simp only
      rw[gd_t (inK64 (by omega) (by omega))]
      refine⟨_,rfl,⟨by simp[a1],by dsimp only;omega,by dsimp only;omega,by dsimp only;omega,?_,?_⟩,by dsimp only;omega⟩
      ·dsimp only
       rw[ht,List.filter_append,<-a5,show(k+1).toNat=k.toNat+1 by omega,Nat.zero_add]
       have hset:(v.set k.toNat x9)[k.toNat]?=some x9:=by rw[List.getElem?_set_self (by omega)]
       rw[take_succ_get hset,List.take_set_of_le (Nat.le_refl _)]
       simp[hx9]
      ·dsimp only
       rw[Nat.zero_add,List.drop_set_of_lt (by omega)]
       exact hd
    ·right
     rw[show decide (j<(v.length:Int))=false by simp;omega,br_f]
     refine⟨_,rfl,a1,a2,by dsimp only;omega,?_⟩
     dsimp only
     rw[a5,List.take_of_length_le (by omega)]) fuel (l,(i:Int),(i:Int)+1) ⟨rfl,by dsimp only;omega,by dsimp only;omega,by dsimp only;omega,by
      dsimp only
      rw[show((i:Int)+1).toNat=i+1 by omega,show(i:Int).toNat=i by omega]
      exact hfirst,rfl⟩ (by dsimp only;omega)
  rw[p1,bd_s]
  obtain⟨v,k⟩:=o
  simp only at p2 p3 p4 p5⊢
  rw[gd_t ⟨by omega,by omega⟩,gd_t ⟨by omega,by omega⟩]
  congr 1
  rw[<-p5,Nat.sub_zero,List.drop_zero,Nat.zero_add]
  unfold putL
  rw[List.append_assoc,List.take_append_of_le_length (by rw[List.length_take];omega),List.take_take,Nat.min_self]
 ·rw[h2]
  simp only[jn_l,bd_s]
  rw[show((-1:Int)== -1)=true by rfl,br_t]
  congr 1
  exact(List.filter_eq_self.2 fun y hy=>by rw[h1 y hy];rfl).symm
def noR:IRect:=IRect.mk 0 0 0 0 0
noncomputable def placesV (t:List INode) (w h:Int):List IRect×Bool:=if treeB t=true/\(1<=w/\w<=120)/\1<=h/\h<=120 then(match prs t.length t with
 | some (T,_)=>if T.fits (0,0,w,h)=true then(T.lf (0,0,w,h),true)else([],false)
 | none=>([],false))else([],false)
theorem placesV_tree (h:treeB t=true):∃T:Tre,t=T.flat/\T.ok/\prs t.length t=some (T,[]):=by
 obtain⟨_,⟨T,e,ho⟩,_⟩:=treeB_iff.1 h
 have:=prs_complete (r:=[]) (n:=t.length) ho (by rw[<-e];exact Nat.le_refl _)
 rw[List.append_nil,<-e]at this
 exact⟨T,e,ho,this⟩
theorem pI_Places_eq {fuel:Nat} (hf:2*t.length+100<fuel):pI_Places fuel t w h=some (placesV t w h):=by
 unfold pI_Places pI_places pI_areasOf placesV
 rw[pI_TreeOk_eq hf,bd_s,pI_within_eq,pI_within_eq]
 cases ht:treeB t with
 | false=>simp
 | true=>
  simp only[Bool.not_true,br_f,bd_s]
  by_cases hw:1<=w/\w<=120
  ·rw[show(decide (1<=w)&&decide (w<=120))=true by simp[hw.1,hw.2]]
   by_cases hh:1<=h/\h<=120
   ·rw[show(decide (1<=h)&&decide (h<=120))=true by simp[hh.1,hh.2],if_pos ⟨trivial,hw,hh⟩]
    obtain⟨T,e,ho,hp⟩:=placesV_tree ht
    have hl31:=(treeB_iff.1 ht).1
    rw[hp]
    simp only[Bool.not_true,br_f,bd_s]
    obtain⟨o,h1,h2,h3⟩:=put_at fuel t (by omega) hf T fuel 0 [] (IRect.mk 0 0 0 w h) [] ho (by rw[List.drop_zero,List.append_nil];exact e) (by rw[<-e];omega) (by unfold qOk rq;simp only;omega) (by rw[<-e];simp;omega)
    rw[show((0:Nat):Int)=0 from rfl,show rq (IRect.mk 0 0 0 w h)=(0,0,w,h)from rfl]at h1
    rw[show rq (IRect.mk 0 0 0 w h)=(0,0,w,h)from rfl]at h2
    rw[h1,bd_s]
    simp only[bd_s]
    cases hfit:T.fits (0,0,w,h)with
    | false=>simp
    | true=>
     have e2:=h2 hfit
     rw[List.nil_append]at e2
     subst e2
     simp only[Bool.not_true,br_f,if_true]
     rw[deleteFunc_eq (by rw[all_len,<-e];omega) (by rw[all_len,<-e];omega),bd_s,all_lf ho]
   ·rw[show(decide (1<=h)&&decide (h<=120))=false by rw[Bool.and_eq_false_iff];simp;omega,if_neg (by omega)]
    simp
  ·rw[show(decide (1<=w)&&decide (w<=120))=false by rw[Bool.and_eq_false_iff];simp;omega,if_neg (by omega)]
   simp
theorem pS_Places_eq {fuel:Nat} (hf:2*t.length+100<fuel):pS_Places fuel t w h=some (placesV t w h):=by
 unfold pS_Places placesV
 rw[pS_TreeOk_eq hf,bd_s]
 cases ht:treeB t with
 | false=>simp
 | true=>
  simp only[Bool.not_true,br_f]
  by_cases hw:1<=w/\w<=120
  ·by_cases hh:1<=h/\h<=120
   ·rw[show decide (w<1)=false by simp;omega,show decide (120<w)=false by simp;omega,show decide (h<1)=false by simp;omega,show decide (120<h)=false by simp;omega,if_pos ⟨trivial,hw,hh⟩]
    obtain⟨T,e,ho,hp⟩:=placesV_tree ht
    have hl31:=(treeB_iff.1 ht).1
    rw[hp]
    simp only[br_f,bd_s]
    obtain⟨l,h1,h2,h3⟩:=place_at fuel t (by omega) hf T fuel 0 [] (IRect.mk 0 0 0 w h) ho (by rw[List.drop_zero,List.append_nil];exact e) (by rw[<-e];omega) (by unfold qOk rq;simp only;omega)
    rw[show((0:Nat):Int)=0 from rfl,show rq (IRect.mk 0 0 0 w h)=(0,0,w,h)from rfl]at h1
    rw[show rq (IRect.mk 0 0 0 w h)=(0,0,w,h)from rfl]at h2
    rw[h1,bd_s]
    simp only
    cases hfit:T.fits (0,0,w,h)with
    | false=>simp
    | true=>
     rw[h2 hfit]
     simp
   ·rw[if_neg (by omega)]
    by_cases hw1:h<1
    ·simp[hw1,show¬w<1 by omega,show¬120<w by omega]
    ·simp[hw1,show 120<h by omega,show¬w<1 by omega,show¬120<w by omega]
  ·rw[if_neg (by omega)]
   by_cases hw1:w<1
   ·simp[hw1]
   ·simp[hw1,show 120<w by omega]
theorem lf_len:∀(T:Tre) (q:Qd),(T.lf q).length<=T.flat.length
 | .leaf x,q=>Nat.le_refl _
 | .node x a b,q=>by have:=lf_len a (f1 x q);have:=lf_len b (f2 x q);simp[Tre.lf,Tre.flat];omega
theorem placesV_len (t:List INode) (w h:Int):(placesV t w h).1.length<=t.length:=by
 unfold placesV
 split
 ·rename_i hc
  obtain⟨T,e,ho,hp⟩:=placesV_tree hc.1
  rw[hp]
  simp only
  split
  ·rw[e];exact lf_len T _
  ·exact Nat.zero_le _
 ·exact Nat.zero_le _
noncomputable def placeOfV (t:List INode) (w h p:Int):IRect×Bool:=match(placesV t w h).1.find? (fun r=>r.Pane==p)with
 | some r=>(r,true)
 | none=>(noR,false)
theorem find_at {l:List α} {q:α->Bool} {x:α} (h1:l[i]?=some x) (h2:q x=true) (h3:∀(j:Nat) y,j<i->l[j]?=some y->q y=false):l.find? q=some x:=by
 obtain⟨hi,e⟩:=qS1.1 h1
 have:l.find? q=some l[i]:=List.find?_eq_some_iff_getElem.2 ⟨by rw[e];exact h2,i,hi,rfl,fun j hj=>by
  rw[h3 j l[j] hj (qE1 (by omega))];rfl⟩
 rw[this,e]
theorem pI_PlaceOf_eq {fuel:Nat} (hf:2*t.length+100<fuel) (hm:t.length<=1048576):pI_PlaceOf fuel t w h p=some (placeOfV t w h p):=by
 unfold pI_PlaceOf placeOfV pG_slices_IndexFunc_IRect_I_PlaceOf_1
 rw[pI_Places_eq hf,bd_s]
 have hl:=placesV_len t w h
 generalize placesV t w h=pl at hl
 obtain⟨l,b⟩:=pl
 simp only at hl⊢
 rcases loopF_find (B:=pG_slices_IndexFunc_IRect_I_PlaceOf_1_b1 fuel) (fun i=>(p,l,(l.length:Int),(i:Int))) l (fun x=>x.Pane==p) (fun i=> .inr ((i:Int),p)) (.inl p) (fuel:=fuel) (v:=(p,l,(l.length:Int),0)) rfl (fun i x hx=>by
  obtain⟨h1,h2,h3,h4,h5⟩:=idx_facts hx (by omega)
  unfold pG_slices_IndexFunc_IRect_I_PlaceOf_1_b1 pI_PlaceOf_1
  simp only[h1,br_t,gd_t h2,h3,bd_s,h5,gd_t h4]
  cases x.Pane==p<;>rfl) (by
  unfold pG_slices_IndexFunc_IRect_I_PlaceOf_1_b1
  simp) (by omega)with⟨i,x,h1,h2,h3,h4⟩ |⟨h1,h2⟩
 ·have hi:=(qS1.1 h1).1
  rw[h4]
  simp only[jn_r,bd_s]
  rw[show decide ((i:Int)<0)=false by simp,br_f,gd_t ⟨by omega,by omega⟩,show(i:Int).toNat=i by omega,h1,bd_s,find_at h1 h2 h3]
 ·rw[h2]
  simp only[jn_l,bd_s]
  rw[show decide ((-1:Int)<0)=true by rfl,br_t,List.find?_eq_none.2 fun x hx=>by rw[h1 x hx];simp]
  rfl
theorem pS_PlaceOf_eq {fuel:Nat} (hf:2*t.length+100<fuel) (hm:t.length<=1048576):pS_PlaceOf fuel t w h p=some (placeOfV t w h p):=by
 unfold pS_PlaceOf placeOfV
 rw[pS_Places_eq hf,bd_s]
 have hl:=placesV_len t w h
 generalize placesV t w h=pl at hl
 obtain⟨l,b⟩:=pl
 simp only at hl⊢
 have key:(∃(i:Nat) (x:IRect),l[i]?=some x/\(x.Pane==p)=true/\(∀(j:Nat) y,j<i->l[j]?=some y->(y.Pane==p)=false)/\loopF (pS_PlaceOf_b1 fuel) fuel (IRect.mk 0 0 0 0 0,p,l,(l.length:Int),0)=some (.inr ((l[i]?).getD noR,true)))∨((∀x∈l,(x.Pane==p)=false)/\loopF (pS_PlaceOf_b1 fuel) fuel (IRect.mk 0 0 0 0 0,p,l,(l.length:Int),0)=some (.inl noR)):=
  loopF_find (B:=pS_PlaceOf_b1 fuel) (fun i=>(IRect.mk 0 0 0 0 0,p,l,(l.length:Int),(i:Int))) l (fun x=>x.Pane==p) (fun i=> .inr ((l[i]?).getD noR,true)) (.inl noR) rfl (fun i x hx=>by
   obtain⟨h1,h2,h3,h4,h5⟩:=idx_facts hx (by omega)
   unfold pS_PlaceOf_b1
   rw[hx]
   simp only[h1,br_t,gd_t h2,Nat.zero_add,h3,bd_s,h5,gd_t h4]
   cases x.Pane==p<;>rfl) (by
   unfold pS_PlaceOf_b1
   simp[noR]) (by omega)
 rcases key with⟨i,x,h1,h2,h3,h4⟩ |⟨h1,h2⟩
 ·rw[h4]
  simp only[jn_r]
  rw[find_at h1 h2 h3,h1]
  rfl
 ·rw[h2]
  simp only[jn_l]
  rw[List.find?_eq_none.2 fun x hx=>by rw[h1 x hx];simp]
  rfl
noncomputable def leavesV (t:List INode):List Int:=if treeB t=true then lvs t else []
theorem leavesV_len (t:List INode):(leavesV t).length<=t.length:=by
 unfold leavesV
 split
 ·exact lvs_len t
 ·exact Nat.zero_le _
theorem pI_Leaves_eq {fuel:Nat} (hf:2*t.length+100<fuel):pI_Leaves fuel t=some (leavesV t):=by
 unfold pI_Leaves leavesV
 rw[pI_TreeOk_eq hf,bd_s]
 cases ht:treeB t with
 | false=>rfl
 | true=>
  have:=(treeB_iff.1 ht).1
  simp only[Bool.not_true,br_f,if_true]
  rw[pI_leaves_eq (by omega) (by omega),bd_s]
theorem pS_Leaves_eq {fuel:Nat} (hf:2*t.length+100<fuel):pS_Leaves fuel t=some (leavesV t):=by
 unfold pS_Leaves leavesV
 rw[pS_TreeOk_eq hf,bd_s]
 cases ht:treeB t with
 | false=>rfl
 | true=>
  obtain⟨hl,⟨T,e,ho⟩,_⟩:=treeB_iff.1 ht
  have hn:∀x∈t,nodeOk x=true:=fun x hx=>(ok_sh ho).2 x (by rw[<-e];exact hx)
  simp only[Bool.not_true,br_f,if_true]
  have key:loopF (pS_Leaves_b1 fuel) fuel ([],t,(t.length:Int),0)=some (lvs t):=by
   refine loopF_run (fun i=>(lvs (t.take i),t,(t.length:Int),(i:Int))) t.length (lvs t) rfl (fun i hi=> ?_) (by unfold pS_Leaves_b1;simp) (by omega)
   have hx:t[i]?=some t[i]:=qE1 hi
   have hno:=hn _ (List.getElem_mem hi)
   obtain⟨h1,h2,h3,h4,h5⟩:=idx_facts hx (by omega)
   rw[take_succ_get hx,lvs_app,lvs_one]
   generalize t[i]=x at hx h3 hno
   unfold pS_Leaves_b1
   simp only[h1,br_t,gd_t h2,h3,bd_s]
   have hr:roomB K.int (lvs (t.take i)++ [x.Pane]).length:=roomB_of (by have:=lvs_len (t.take i);simp at this⊢;omega) (by decide)
   by_cases h0:x.Pane=0
   ·have e1:decide (0<x.Pane)=false:=by simp[h0]
    simp only[e1,br_f,bd_s,if_pos h0,List.append_nil]
    rw[h5,gd_t h4]
   ·have e1:decide (0<x.Pane)=true:=by
     unfold nodeOk at hno
     rw[Bool.or_eq_true]at hno
     rcases hno with h|h
     ·unfold leafOk at h;simp only[Bool.and_eq_true,decide_eq_true_eq]at h;simp;omega
     ·exact absurd (splitOk_eq h) h0
    simp only[e1,br_t,if_neg h0,gd_t hr,bd_s]
    rw[h5,gd_t h4]
  rw[key,bd_s]
def atV {α:Type} (q:α->Bool) (l:List α):Int:=match l.findIdx? q with
 | some i=>(i:Int)
 | none=> -1
theorem findIdx_at {l:List α} {q:α->Bool} {x:α} (h1:l[i]?=some x) (h2:q x=true) (h3:∀(j:Nat) y,j<i->l[j]?=some y->q y=false):l.findIdx? q=some i:=by
 obtain⟨hi,e⟩:=qS1.1 h1
 exact List.findIdx?_eq_some_iff_getElem.2 ⟨hi,by rw[e];exact h2,fun j hj=>by
  rw[h3 j l[j] hj (qE1 (by omega))];simp⟩
theorem loopF_fnd {V:Type} {B:V->Option (V⊕O)} (f:Nat->V) (l:List α) (q:α->Bool) (R:Nat->O) (E:O) {fuel:Nat} {v:V} (hv:v=f 0) (h:∀i x,l[i]?=some x->B (f i)=if q x then some (.inr (R i))else some (.inl (f (i+1)))) (he:B (f l.length)=some (.inr E)) (hf:l.length<fuel) :
  loopF B fuel v=some (match l.findIdx? q with|some i=>R i|none=>E):=by
 rcases loopF_find f l q R E hv h he hf with⟨i,x,h1,h2,h3,h4⟩ |⟨h1,h2⟩
 ·rw[h4,findIdx_at h1 h2 h3]
 ·rw[h2,List.findIdx?_eq_none_iff.2 h1]
theorem atV_some {q:α->Bool} {l:List α} (h:l.findIdx? q=some i):atV q l=(i:Int):=by unfold atV;rw[h]
theorem atV_none {q:α->Bool} {l:List α} (h:l.findIdx? q=none):atV q l= -1:=by unfold atV;rw[h]
theorem atV_neg (q:α->Bool) (l:List α):decide (atV q l<0)= !l.any q:=by
 cases h:l.findIdx? q with
 | none=>
  rw[atV_none h]
  have:=List.findIdx?_eq_none_iff.1 h
  rw[show l.any q=false from List.any_eq_false.2 fun x hx=>by rw[this x hx];simp]
  rfl
 | some i=>
  rw[atV_some h]
  obtain⟨hi,h2,_⟩:=List.findIdx?_eq_some_iff_getElem.1 h
  rw[show l.any q=true from List.any_eq_true.2 ⟨l[i],List.getElem_mem hi,h2⟩]
  simp
theorem atV_nonneg (q:α->Bool) (l:List α):decide (0<=atV q l)=l.any q:=by
 have:=atV_neg q l
 cases h:l.any q with
 | true=>
  rw[h]at this
  simp only[Bool.not_true,decide_eq_false_iff_not]at this
  simp;omega
 | false=>
  rw[h]at this
  simp only[Bool.not_false,decide_eq_true_eq]at this
  simp;omega
theorem findIdx_get {q:α->Bool} {l:List α} (h:l.findIdx? q=some i):∃x,l[i]?=some x/\q x=true:=by
 obtain⟨hi,h2,_⟩:=List.findIdx?_eq_some_iff_getElem.1 h
 exact⟨l[i],qE1 hi,h2⟩
section
variable {fuel:Nat}
theorem index_int {l:List Int} {n:Int} (hl:l.length<=1000000000) (hf:l.length<fuel):pG_slices_Index_int fuel l n=some (atV (fun y=>y==n) l):=by
 unfold pG_slices_Index_int atV
 have h:=loopF_fnd (B:=pG_slices_Index_int_b1 fuel) (fun i=>(l,n,(l.length:Int),(i:Int))) l (fun y=>y==n) (fun i=> .inr (i:Int)) (.inl ()) (v:=(l,n,(l.length:Int),0)) rfl (fun i x hx=>by
  obtain⟨h1,h2,h3,h4,h5⟩:=idx_facts hx (by omega)
  unfold pG_slices_Index_int_b1
  simp only[h1,br_t,gd_t h2,h3,bd_s,h5,gd_t h4]
  rw[show(n==x)=(x==n) by rw[Bool.eq_iff_iff];simp;exact eq_comm]
  cases x==n<;>rfl) (by unfold pG_slices_Index_int_b1;simp) hf
 rw[h]
 cases l.findIdx? _<;>rfl
theorem contains_int {l:List Int} {n:Int} (hl:l.length<=1000000000) (hf:l.length<fuel):pG_slices_Contains_int fuel l n=some (l.any fun y=>y==n):=by
 unfold pG_slices_Contains_int
 rw[index_int hl hf,bd_s,atV_nonneg]
theorem pS_PaneAt_eq {n:Int} (hl:s.Panes.length<=1000000000) (hf:s.Panes.length<fuel):pS_PaneAt fuel s n=some (atV (fun y=>y.Id==n) s.Panes):=by
 unfold pS_PaneAt atV
 have h:=loopF_fnd (B:=pS_PaneAt_b1 fuel) (fun i=>(n,s.Panes,(s.Panes.length:Int),(i:Int))) s.Panes (fun y=>y.Id==n) (fun i=> .inr (i:Int)) (.inl ()) (v:=(n,s.Panes,(s.Panes.length:Int),0)) rfl (fun i x hx=>by
  obtain⟨h1,h2,h3,h4,h5⟩:=idx_facts hx (by omega)
  unfold pS_PaneAt_b1
  simp only[h1,br_t,gd_t h2,h3,bd_s,h5,gd_t h4]
  cases x.Id==n<;>rfl) (by unfold pS_PaneAt_b1;simp) hf
 rw[h]
 cases s.Panes.findIdx? _<;>rfl
theorem pS_WinAt_eq {n:Int} (hl:s.Wins.length<=1000000000) (hf:s.Wins.length<fuel):pS_WinAt fuel s n=some (atV (fun y=>y.Id==n) s.Wins):=by
 unfold pS_WinAt atV
 have h:=loopF_fnd (B:=pS_WinAt_b1 fuel) (fun i=>(n,s.Wins,(s.Wins.length:Int),(i:Int))) s.Wins (fun y=>y.Id==n) (fun i=> .inr (i:Int)) (.inl ()) (v:=(n,s.Wins,(s.Wins.length:Int),0)) rfl (fun i x hx=>by
  obtain⟨h1,h2,h3,h4,h5⟩:=idx_facts hx (by omega)
  unfold pS_WinAt_b1
  simp only[h1,br_t,gd_t h2,h3,bd_s,h5,gd_t h4]
  cases x.Id==n<;>rfl) (by unfold pS_WinAt_b1;simp) hf
 rw[h]
 cases s.Wins.findIdx? _<;>rfl
theorem pI_WinAt_eq {n:Int} (hl:s.Wins.length<=1000000000) (hf:s.Wins.length<fuel):pI_WinAt fuel s n=some (atV (fun y=>y.Id==n) s.Wins):=by
 unfold pI_WinAt pG_slices_IndexFunc_IWin_I_WinAt_1 atV
 have h:=loopF_fnd (B:=pG_slices_IndexFunc_IWin_I_WinAt_1_b1 fuel) (fun i=>(n,s.Wins,(s.Wins.length:Int),(i:Int))) s.Wins (fun y=>y.Id==n) (fun i=> .inr ((i:Int),n)) (.inl n) (v:=(n,s.Wins,(s.Wins.length:Int),0)) rfl (fun i x hx=>by
  obtain⟨h1,h2,h3,h4,h5⟩:=idx_facts hx (by omega)
  unfold pG_slices_IndexFunc_IWin_I_WinAt_1_b1 pI_WinAt_1
  simp only[h1,br_t,gd_t h2,h3,bd_s,h5,gd_t h4]
  cases x.Id==n<;>rfl) (by unfold pG_slices_IndexFunc_IWin_I_WinAt_1_b1;simp) hf
 rw[h]
 cases s.Wins.findIdx? _<;>rfl
theorem pS_SessAt_eq (hl:s.Sess.length<=1000000000) (hf:s.Sess.length<fuel):pS_SessAt fuel s n=some (atV (fun y=>decide (y.Name=n)) s.Sess):=by
 unfold pS_SessAt atV
 have h:=loopF_fnd (B:=pS_SessAt_b1 fuel) (fun i=>(n,s.Sess,(s.Sess.length:Int),(i:Int))) s.Sess (fun y=>decide (y.Name=n)) (fun i=> .inr (i:Int)) (.inl ()) (v:=(n,s.Sess,(s.Sess.length:Int),0)) rfl (fun i x hx=>by
  obtain⟨h1,h2,h3,h4,h5⟩:=idx_facts hx (by omega)
  unfold pS_SessAt_b1
  simp only[h1,br_t,gd_t h2,h3,bd_s,h5,gd_t h4]
  cases decide (x.Name=n)<;>rfl) (by unfold pS_SessAt_b1;simp) hf
 rw[h]
 cases s.Sess.findIdx? _<;>rfl
theorem pI_SessAt_eq (hl:s.Sess.length<=1000000000) (hf:s.Sess.length<fuel):pI_SessAt fuel s n=some (atV (fun y=>decide (y.Name=n)) s.Sess):=by
 unfold pI_SessAt pG_slices_IndexFunc_ISess_I_SessAt_1 atV
 have h:=loopF_fnd (B:=pG_slices_IndexFunc_ISess_I_SessAt_1_b1 fuel) (fun i=>(n,s.Sess,(s.Sess.length:Int),(i:Int))) s.Sess (fun y=>decide (y.Name=n)) (fun i=> .inr ((i:Int),n)) (.inl n) (v:=(n,s.Sess,(s.Sess.length:Int),0)) rfl (fun i x hx=>by
  obtain⟨h1,h2,h3,h4,h5⟩:=idx_facts hx (by omega)
  unfold pG_slices_IndexFunc_ISess_I_SessAt_1_b1 pI_SessAt_1
  simp only[h1,br_t,gd_t h2,h3,bd_s,h5,gd_t h4]
  cases decide (x.Name=n)<;>rfl) (by unfold pG_slices_IndexFunc_ISess_I_SessAt_1_b1;simp) hf
 rw[h]
 cases s.Sess.findIdx? _<;>rfl
structure StF (fuel:Nat) (s:IState):Prop where
 fu:20000000<fuel
 pl:s.Panes.length<=1048576
 wl:s.Wins.length<=1048576
 sl:s.Sess.length<=1048576
 tr:∀w∈s.Wins,w.Tree.length<=1048576
 nm:∀w∈s.Wins,w.Name.size<=1048576
 sw:∀x∈s.Sess,x.Wins.length<=1048576
 sn:∀x∈s.Sess,x.Name.size<=1048576
noncomputable def winQ (p:Int) (w:IWin):Bool:=(leavesV w.Tree).any fun y=>y==p
theorem pI_WinOf_eq (h:StF fuel s):pI_WinOf fuel s p=some (atV (winQ p) s.Wins):=by
 have:=h.fu;have:=h.wl
 unfold pI_WinOf pG_slices_IndexFunc_IWin_I_WinOf_1 atV
 have hh:=loopF_fnd (fuel:=fuel) (B:=pG_slices_IndexFunc_IWin_I_WinOf_1_b1 fuel) (fun i=>(p,s.Wins,(s.Wins.length:Int),(i:Int))) s.Wins (winQ p) (fun i=> .inr ((i:Int),p)) (.inl p) (v:=(p,s.Wins,(s.Wins.length:Int),0)) rfl (fun i x hx=>by
  obtain⟨h1,h2,h3,h4,h5⟩:=idx_facts hx (by omega)
  have ht:=h.tr x (qM1 hx)
  have hll:=leavesV_len x.Tree
  unfold pG_slices_IndexFunc_IWin_I_WinOf_1_b1 pI_WinOf_1
  simp only[h1,br_t,gd_t h2,h3,bd_s,h5,gd_t h4]
  rw[pI_Leaves_eq (by omega),bd_s,contains_int (by omega) (by omega),bd_s,bd_s]
  unfold winQ
  cases(leavesV x.Tree).any fun y=>y==p<;>rfl) (by unfold pG_slices_IndexFunc_IWin_I_WinOf_1_b1;simp) (by omega)
 rw[hh]
 cases s.Wins.findIdx? _<;>rfl
theorem pS_WinOf_eq (h:StF fuel s):pS_WinOf fuel s p=some (atV (winQ p) s.Wins):=by
 have:=h.fu;have:=h.wl
 unfold pS_WinOf atV
 have hh:=loopF_fnd (fuel:=fuel) (B:=pS_WinOf_b1 fuel) (fun i=>(p,s.Wins,(s.Wins.length:Int),(i:Int))) s.Wins (winQ p) (fun i=> .inr (i:Int)) (.inl ()) (v:=(p,s.Wins,(s.Wins.length:Int),0)) rfl (fun i x hx=>by
  obtain⟨h1,h2,h3,h4,h5⟩:=idx_facts hx (by omega)
  have ht:=h.tr x (qM1 hx)
  have hll:=leavesV_len x.Tree
  unfold pS_WinOf_b1
  simp only[h1,br_t,gd_t h2,h3,bd_s,h5,gd_t h4]
  rw[pS_Leaves_eq (by omega),bd_s,hasInt_eq (by omega) (by omega),bd_s]
  unfold winQ
  cases(leavesV x.Tree).any fun y=>y==p<;>rfl) (by unfold pS_WinOf_b1;simp) (by omega)
 rw[hh]
 cases s.Wins.findIdx? _<;>rfl
noncomputable def areaV (s:IState) (p:Int):Int×Int:=match s.Wins.findIdx? (winQ p)with
 | none=>(0,0)
 | some i=>(match s.Wins[i]? with
  | none=>(0,0)
  | some w=>if(w.Zoom&&w.Active==p)=true then(s.W,s.H)else((placeOfV w.Tree s.W s.H p).1.W,(placeOfV w.Tree s.W s.H p).1.H))
theorem pI_Area_eq (h:StF fuel s):pI_Area fuel s p=some (areaV s p):=by
 have:=h.fu;have:=h.wl
 unfold pI_Area areaV
 rw[pI_WinOf_eq h,bd_s]
 cases hi:s.Wins.findIdx? (winQ p)with
 | none=>rw[atV_none hi];rfl
 | some i=>
  obtain⟨w,hw,_⟩:=findIdx_get hi
  have hlt:=(qS1.1 hw).1
  have ht:=h.tr w (qM1 hw)
  rw[atV_some hi,show decide ((i:Int)<0)=false by simp,br_f,gd_t ⟨by omega,by omega⟩,show(i:Int).toNat=i by omega,hw,bd_s]
  simp only
  rw[hw]
  simp only
  cases hz:w.Zoom with
  | false=>
   simp only[br_f,bd_s,Bool.false_and,Bool.false_eq_true,if_false]
   rw[pI_PlaceOf_eq (by omega) ht,bd_s]
  | true=>
   simp only[br_t,bd_s,Bool.true_and]
   cases ha:(w.Active==p)with
   | true=>rfl
   | false=>
    simp only[br_f,Bool.false_eq_true,if_false]
    rw[pI_PlaceOf_eq (by omega) ht,bd_s]
theorem pS_Area_eq (h:StF fuel s):pS_Area fuel s p=some (areaV s p):=by
 have:=h.fu;have:=h.wl
 unfold pS_Area areaV
 rw[pS_WinOf_eq h,bd_s]
 cases hi:s.Wins.findIdx? (winQ p)with
 | none=>rw[atV_none hi];rfl
 | some i=>
  obtain⟨w,hw,_⟩:=findIdx_get hi
  have hlt:=(qS1.1 hw).1
  have ht:=h.tr w (qM1 hw)
  rw[atV_some hi,show decide ((i:Int)<0)=false by simp,br_f,gd_t ⟨by omega,by omega⟩,show(i:Int).toNat=i by omega,hw,bd_s]
  simp only
  rw[hw]
  simp only
  cases hz:w.Zoom with
  | false=>
   simp only[br_f,bd_s,Bool.false_and,Bool.false_eq_true,if_false]
   rw[pS_PlaceOf_eq (by omega) ht,bd_s]
  | true=>
   simp only[br_t,bd_s,Bool.true_and]
   cases ha:(w.Active==p)with
   | true=>rfl
   | false=>
    simp only[br_f,Bool.false_eq_true,if_false]
    rw[pS_PlaceOf_eq (by omega) ht,bd_s]
end
def bOk (x:UInt8):Bool:=(decide (97<=x.toNat)&&decide (x.toNat<=122))||(decide (48<=x.toNat)&&decide (x.toNat<=57))
def badW (s:ByteArray) (i:Nat):Bool:=match s[i]? with
 | some x=> !bOk x
 | none=>false
def wordB (s:ByteArray):Bool:= !(List.range s.size).any (badW s)&&(decide (1<=(s.size:Int))&&decide ((s.size:Int)<=12))
theorem byte_at {s:ByteArray} (h:i<s.size):s[i]?=some s[i]:=getElem?_pos s i h
theorem noByte (c:Int):pG_strings_IndexByte (ByteArray.mk #[]) c=some (-1):=by
 unfold pG_strings_IndexByte
 rw[gd_t (by show(0:Nat)<=_;omega)]
 rfl
theorem word_cases (x:UInt8):∃a b c d:Bool,decide (97<=(x.toNat:Int))=a/\decide ((x.toNat:Int)<=122)=b/\decide (48<=(x.toNat:Int))=c/\decide ((x.toNat:Int)<=57)=d/\bOk x=((a&&b)||(c&&d)):=by
 refine⟨_,_,_,_,rfl,rfl,rfl,rfl,?_⟩
 unfold bOk
 rw[show decide (97<=(x.toNat:Int))=decide (97<=x.toNat) by rw[decide_eq_decide];omega,show decide ((x.toNat:Int)<=122)=decide (x.toNat<=122) by rw[decide_eq_decide];omega,show decide (48<=(x.toNat:Int))=decide (48<=x.toNat) by rw[decide_eq_decide];omega,show decide ((x.toNat:Int)<=57)=decide (x.toNat<=57) by rw[decide_eq_decide];omega]
theorem pI_WordOk_eq {fuel:Nat} {s:ByteArray} (hs:s.size<=1048576) (hf:s.size<fuel):pI_WordOk fuel s=some (wordB s):=by
 unfold pI_WordOk pI_isPlain wordB
 have key:loopF (pI_isPlain_b1 fuel) fuel (s,12,ByteArray.mk #[],(s.size:Int),0)=some (if(List.range s.size).any (badW s)then Sum.inr false else Sum.inl (s,12)):=by
  refine loopF_scan (fun i=>(s,12,ByteArray.mk #[],(s.size:Int),(i:Int))) s.size (badW s) (Sum.inr false) (Sum.inl (s,12)) rfl (fun i hi=> ?_) (by unfold pI_isPlain_b1;simp) hf
  have hx:=byte_at hi
  unfold pI_isPlain_b1 badW
  rw[hx]
  generalize s[i]=x at hx
  simp only
  rw[show decide ((i:Int)<(s.size:Int))=true by simpa using hi,br_t,gd_t (by omega),show(i:Int).toNat=i by omega,hx,bd_s]
  obtain⟨a,b,c,d,e1,e2,e3,e4,e5⟩:=word_cases x
  simp only[e1,e2,e3,e4,e5,noByte]
  have h5:(i:Int)+1=((i+1:Nat):Int):=by omega
  have hk:inK .i64 ((i:Int)+1):=inK64 (by omega) (by omega)
  cases a<;>cases b<;>cases c<;>cases d<;>simp only[br_t,br_f,bd_s]<;>first|rfl|(refine(gd_p hk _).trans ?_;rw[h5];rfl)
 rw[key]
 cases(List.range s.size).any (badW s)with
 | true=>rfl
 | false=>
  simp only[Bool.false_eq_true,if_false,jn_l,pI_within_eq,bd_s,Bool.not_false,Bool.true_and]
theorem pS_WordOk_eq {fuel:Nat} {s:ByteArray} (hs:s.size<=1048576) (hf:s.size<fuel):pS_WordOk fuel s=some (wordB s):=by
 unfold pS_WordOk wordB
 have key:loopF (pS_WordOk_b1 fuel) fuel (s,0)=some (if(List.range s.size).any (badW s)then Sum.inr false else Sum.inl s):=by
  refine loopF_scan (fun i=>(s,(i:Int))) s.size (badW s) (Sum.inr false) (Sum.inl s) rfl (fun i hi=> ?_) (by unfold pS_WordOk_b1;simp) hf
  have hx:=byte_at hi
  unfold pS_WordOk_b1 badW
  rw[hx]
  generalize s[i]=x at hx
  simp only
  rw[show decide ((i:Int)<(s.size:Int))=true by simpa using hi,br_t]
  simp only[gd_t (show(0:Int)<=(i:Int) by omega),show(i:Int).toNat=i by omega,hx,bd_s]
  obtain⟨a,b,c,d,e1,e2,e3,e4,e5⟩:=word_cases x
  have f1:decide ((x.toNat:Int)<97)= !a:=by rw[<-e1];by_cases h:97<=(x.toNat:Int)<;>simp[h]<;>omega
  have f2:decide (122<(x.toNat:Int))= !b:=by rw[<-e2];by_cases h:(x.toNat:Int)<=122<;>simp[h]<;>omega
  have f3:decide ((x.toNat:Int)<48)= !c:=by rw[<-e3];by_cases h:48<=(x.toNat:Int)<;>simp[h]<;>omega
  have f4:decide (57<(x.toNat:Int))= !d:=by rw[<-e4];by_cases h:(x.toNat:Int)<=57<;>simp[h]<;>omega
  simp only[f1,f2,f3,f4,e5]
  have h5:(i:Int)+1=((i+1:Nat):Int):=by omega
  have f5:a=true->b=false->c=true/\d=false:=by
   intro ha hb
   subst ha hb
   simp only[decide_eq_true_eq,decide_eq_false_iff_not]at e1 e2
   constructor
   ·rw[<-e3];simp;omega
   ·rw[<-e4];simp;omega
  have f6:a=false->b=true:=by
   intro ha
   subst ha
   simp only[decide_eq_false_iff_not]at e1
   rw[<-e2];simp;omega
  have hk:inK .i64 ((i:Int)+1):=inK64 (by omega) (by omega)
  cases a<;>cases b<;>cases c<;>cases d<;>simp only[br_t,br_f,bd_s,Bool.not_true,Bool.not_false]<;>first|rfl|(exact absurd (f6 rfl) (by decide))|(have f7:=f5 rfl rfl;simp at f7;done)|(refine(gd_p hk _).trans ?_;rw[h5];rfl)
 rw[key]
 cases(List.range s.size).any (badW s)with
 | true=>rfl
 | false=>
  simp only[Bool.false_eq_true,if_false,jn_l,bd_s,Bool.not_false,Bool.true_and]
  cases decide (1<=(s.size:Int))<;>rfl
def numT (n:Int):ByteArray:=if 0<=n/\n<=4294967295 then⟨(Lib.decDigits n.toNat).toArray⟩else ByteArray.mk #[]
theorem pI_NumText_eq (fuel:Nat) (n:Int):pI_NumText fuel n=some (numT n):=by
 unfold pI_NumText pI_isNum numT pG_strconv_Itoa
 rw[pI_within_eq,bd_s,bd_s]
 by_cases h:0<=n/\n<=4294967295
 ·rw[show(decide (0<=n)&&decide (n<=4294967295))=true by simp[h.1,h.2],if_pos h,gd_t h]
  rfl
 ·rw[show(decide (0<=n)&&decide (n<=4294967295))=false by rw[Bool.and_eq_false_iff];simp;omega,if_neg h]
  rfl
theorem dig (k:Nat) (hk:k<10):UInt8.ofNat (IntKind.u8.wrap (48+(k:Int))).toNat=UInt8.ofNat (48+k):=by
 congr 1
 show((48+(k:Int)) % 256).toNat=_
 omega
theorem numText_go (fuel:Nat):∀(k m u:Nat),u<10 ^ (k+1)->u<=4294967295->k<m->recF (pS_NumText fuel) m (u:Int)=some ⟨(Lib.decDigits u).toArray⟩
 | k,0,u,h,hu,hk=>by omega
 | k,m+1,u,h,hu,hk=>by
  show pS_NumText fuel (recF (pS_NumText fuel) m) (u:Int)=_
  have ih:∀k',k=k'+1->recF (pS_NumText fuel) m ((u / 10:Nat):Int)=some ⟨(Lib.decDigits (u / 10)).toArray⟩:=fun k' e=>numText_go fuel k' m (u / 10) (by subst e;rw[Nat.pow_succ]at h;omega) (by omega) (by omega)
  generalize recF (pS_NumText fuel) m=slf at ih⊢
  unfold pS_NumText pS_l01Num
  rw[show decide (0<=(u:Int))=true by simp,show decide ((u:Int)<=4294967295)=true by simp;omega]
  simp only[br_t,bd_s,Bool.not_true,br_f]
  by_cases h10:u<10
  ·rw[show decide ((u:Int)<10)=true by simp;omega,br_t,gd_t (inK64 (by omega) (by omega)),dec_small h10,dig u h10]
  ·rw[show decide ((u:Int)<10)=false by simp;omega,br_f]
   have e1:(u:Int).tdiv 10=((u / 10:Nat):Int):=by
    rw[Int.tdiv_eq_ediv_of_nonneg (by omega)];omega
   have e2:(u:Int).tmod 10=((u % 10:Nat):Int):=by
    rw[Int.tmod_eq_emod_of_nonneg (by omega)];omega
   cases k with
   | zero=>simp at h;omega
   | succ k=>
    have hl:=dec_len k (u / 10) (by rw[Nat.pow_succ]at h;omega)
    have hk20:k<=9∨9<k:=by omega
    rw[e1,e2,gd_t (by omega),gd_t (inK64 (by omega) (by omega)),ih k rfl,bd_s,gd_t (by omega),gd_t (inK64 (by omega) (by omega)),dig (u % 10) (by omega)]
    have hl2:=dec_len 9 (u / 10) (by omega)
    rw[gd_t (by
     show(Lib.decDigits (u / 10)).toArray.size+1<=_
     simp;omega),dec_big h10]
    congr 1
theorem pS_NumText_eq {fuel:Nat} (n:Int) (hf:20<fuel):recF (pS_NumText fuel) fuel n=some (numT n):=by
 unfold numT
 by_cases h:0<=n/\n<=4294967295
 ·rw[if_pos h]
  have:=numText_go fuel 9 fuel n.toNat (by omega) (by omega) (by omega)
  rwa[show((n.toNat:Nat):Int)=n by omega]at this
 ·rw[if_neg h]
  obtain⟨m,rfl⟩:∃m,fuel=m+1:=⟨fuel-1,by omega⟩
  show pS_NumText (m+1) (recF (pS_NumText (m+1)) m) n=_
  generalize recF (pS_NumText (m+1)) m=slf
  unfold pS_NumText pS_l01Num
  by_cases h0:0<=n
  ·rw[show decide (0<=n)=true by simpa using h0,show decide (n<=4294967295)=false by simp;omega];rfl
  ·rw[show decide (0<=n)=false by simpa using h0];rfl
theorem numT_size (n:Int):(numT n).size<=10:=by
 unfold numT
 split
 ·show(Lib.decDigits n.toNat).toArray.size<=_
  have:=dec_len 9 n.toNat (by omega)
  simp;omega
 ·exact Nat.zero_le _
open Classical in
noncomputable def fi:List MapEntry->Int->Option (Nat×Value)
 | [],_=>none
 | e::l,k=>if e.key= .int .i64 k then some (0,e.val)else(fi l k).map fun p=>(p.1+1,p.2)
def WfE (e:MapEntry):Prop:=(∃n,e.key= .int .i64 n)/\∃b,e.val= .bool b
theorem find_fi {k:Int}:∀{l:List MapEntry} {i:Nat},(∀e∈l,WfE e)->Instr.findNow (.int .i64) (.int .i64 k) l i=some ((fi l k).map fun p=>(i+p.1,p.2))
 | [],i,_=>rfl
 | e::l,i,h=>by
  obtain⟨⟨n,hn⟩,_⟩:=h e (by simp)
  have ih:=find_fi (k:=k) (l:=l) (i:=i+1) fun e he=>h e (by simp[he])
  unfold Instr.findNow fi
  rw[hn]
  unfold Instr.sameNow
  by_cases hkn:k=n
  ·subst hkn
   simp
  ·have e1:¬(Value.int .i64 n= .int .i64 k):=fun e=>hkn (by injection e with _ e;exact e.symm)
   rw[if_neg e1]
   simp only[if_true,show(k==n)=false by simpa using hkn]
   rw[ih]
   cases fi l k with
   | none=>rfl
   | some p=>simp;omega
theorem fi_get {k:Int}:∀{l:List MapEntry} {i:Nat} {v:Value},fi l k=some (i,v)->∃e,l[i]?=some e/\e.key= .int .i64 k/\e.val=v
 | [],_,_,h=>by cases h
 | e::l,i,v,h=>by
  unfold fi at h
  split at h
  ·rename_i hk
   cases h
   exact⟨e,rfl,hk,rfl⟩
  ·cases hf:fi l k with
   | none=>rw[hf]at h;cases h
   | some p=>
    rw[hf]at h
    obtain⟨j,u⟩:=p
    simp at h
    obtain⟨rfl,rfl⟩:=h
    obtain⟨e',h1,h2⟩:=fi_get hf
    exact⟨e',by simpa using h1,h2⟩
def boolV:Value->Bool
 | .bool b=>b
 | _=>false
def boolOf:Option (Nat×Value)->Bool
 | some p=>boolV p.2
 | none=>false
def MapF (o:Obj) (g:Int->Bool):Prop:=∃es cl,o= .map es cl/\(∀e∈es.toList,WfE e)/\∀k,boolOf (fi es.toList k)=g k
theorem mapF_empty:MapF emptyM fun _=>false:=⟨#[],0,rfl,by simp,fun k=>rfl⟩
theorem mapF_get {o:Obj} {g:Int->Bool} (h:MapF o g) (k:Int):mpB .i o (.int .i64 k)=some (g k):=by
 obtain⟨es,cl,rfl,hw,hg⟩:=h
 unfold mpB mpGet
 simp only[MK.td]
 rw[find_fi hw,<-hg k]
 cases hf:fi es.toList k with
 | none=>rfl
 | some p=>
  obtain⟨i,v⟩:=p
  obtain⟨e,h1,_,h3⟩:=fi_get hf
  obtain⟨_,b,hb⟩:=hw e (qM1 h1)
  rw[hb]at h3
  subst h3
  rfl
theorem fi_app {k:Int} {x:MapEntry}:∀{l:List MapEntry},boolOf (fi (l++ [x]) k)=match fi l k with
  | some p=>boolOf (some p)
  | none=>boolOf (fi [x] k)
 | []=>rfl
 | e::l=>by
  have ih:=fi_app (k:=k) (x:=x) (l:=l)
  rw[List.cons_append]
  unfold fi
  by_cases hk:e.key= .int .i64 k
  ·rw[if_pos hk,if_pos hk]
  ·rw[if_neg hk,if_neg hk]
   cases h1:fi (l++ [x]) k<;>cases h2:fi l k<;>simp only[h1,h2]at ih<;>simp only[Option.map_none,Option.map_some]
   ·exact ih
   ·rename_i p;obtain⟨_,v⟩:=p;exact ih
   ·rename_i p;obtain⟨_,v⟩:=p;unfold fi at ih;exact ih
   ·rename_i p q;obtain⟨_,v⟩:=p;obtain⟨_,u⟩:=q;exact ih
theorem fi_mod {k k':Int} {b:Bool}:∀{l:List MapEntry} {i:Nat} {v:Value},fi l k=some (i,v)->boolOf (fi (l.modify i fun e=> {e with key:= .int .i64 k,val:= .bool b}) k')=if k'=k then b else boolOf (fi l k')
 | [],_,_,h=>by cases h
 | e::l,i,v,h=>by
  unfold fi at h
  split at h
  ·rename_i hk
   cases h
   rw[List.modify_zero_cons]
   unfold fi
   by_cases hkk:k'=k
   ·subst hkk;simp[boolOf,boolV]
   ·have e1:¬(Value.int .i64 k= .int .i64 k'):=fun e=>hkk (by injection e with _ e;exact e.symm)
    rw[if_neg hkk,hk]
    simp only
    rw[if_neg e1,if_neg e1]
  ·rename_i hk
   cases hf:fi l k with
   | none=>rw[hf]at h;cases h
   | some p=>
    rw[hf]at h
    obtain⟨j,u⟩:=p
    simp at h
    obtain⟨rfl,rfl⟩:=h
    have ih:=fi_mod (k':=k') (b:=b) hf
    rw[List.modify_succ_cons]
    unfold fi
    by_cases hk2:e.key= .int .i64 k'
    ·rw[if_pos hk2,if_pos hk2]
     have:k'≠k:=fun e2=>hk (by rw[hk2,e2])
     rw[if_neg this]
    ·rw[if_neg hk2,if_neg hk2]
     cases h1:fi (l.modify j fun e=> {e with key:= .int .i64 k,val:= .bool b}) k' with
     | none=>
      rw[h1]at ih
      cases h2:fi l k' with
      | none=>rw[h2]at ih;exact ih
      | some q=>rw[h2]at ih;obtain⟨_,w⟩:=q;exact ih
     | some p1=>
      rw[h1]at ih
      obtain⟨_,w1⟩:=p1
      cases h2:fi l k' with
      | none=>rw[h2]at ih;exact ih
      | some q=>rw[h2]at ih;obtain⟨_,w⟩:=q;exact ih
theorem mapF_put {o:Obj} {g:Int->Bool} (h:MapF o g) (k:Int) (b:Bool):∃o',mpPut .i o (.int .i64 k) (.bool b)=some o'/\MapF o' fun k'=>if k'=k then b else g k':=by
 obtain⟨es,cl,rfl,hw,hg⟩:=h
 unfold mpPut
 simp only[MK.td]
 rw[find_fi hw]
 cases hf:fi es.toList k with
 | none=>
  refine⟨_,rfl,_,_,rfl,fun e he=> ?_,fun k'=> ?_⟩
  ·rw[Array.toList_push]at he
   rcases List.mem_append.1 he with he|he
   ·exact hw e he
   ·rw[List.mem_singleton.1 he];exact⟨⟨k,rfl⟩,b,rfl⟩
  ·show _=if k'=k then b else g k'
   rw[Array.toList_push,fi_app]
   by_cases hk:k'=k
   ·subst hk
    rw[hf,if_pos rfl]
    unfold fi
    simp[boolOf,boolV]
   ·rw[if_neg hk,<-hg k']
    cases h2:fi es.toList k' with
    | some p=>rfl
    | none=>
     unfold fi
     have e1:¬(Value.int .i64 k= .int .i64 k'):=fun e=>hk (by injection e with _ e;exact e.symm)
     rw[if_neg e1]
     rfl
 | some p=>
  obtain⟨i,v⟩:=p
  obtain⟨e,h1,h2,h3⟩:=fi_get hf
  have hi:es[i]?=some e:=by simpa using h1
  have hsb:Instr.sameBits 10000 (((es[i]?).map (·.key)).getD (.int .i64 k)) (.int .i64 k)=true:=by
   rw[hi]
   simp only[Option.map_some,Option.getD_some,h2]
   simp[Instr.sameBits]
  simp only[Option.map_some,Nat.zero_add]
  rw[if_pos hsb]
  refine⟨_,rfl,_,_,rfl,fun e' he'=> ?_,fun k'=> ?_⟩
  ·rw[Array.toList_modify]at he'
   obtain⟨j,hj⟩:=List.getElem?_of_mem he'
   rw[List.getElem?_modify]at hj
   cases hlj:es.toList[j]? with
   | none=>rw[hlj]at hj;simp at hj
   | some e2=>
    rw[hlj]at hj
    simp at hj
    by_cases hij:i=j
    ·rw[if_pos hij]at hj;rw[<-hj];exact⟨⟨k,rfl⟩,b,rfl⟩
    ·rw[if_neg hij]at hj;rw[<-hj];exact hw e2 (qM1 hlj)
  ·rw[Array.toList_modify,fi_mod hf,hg k']
structure PaneF (fuel:Nat) (p:IPane):Prop where
 al:p.Term.P.Args.length<=9223372036854775807
 af:p.Term.P.Args.length<fuel
 s:ScrF fuel p.Term.S
noncomputable def paneB (p:IPane):Bool:=paneOkB p (runeBeginB p.Term.P.Part)
theorem pI_PaneOk_f {p:IPane} (h:PaneF (F+70) p):pI_PaneOk (F+70) p=some (paneB p):=
 pI_PaneOk_eq (pI_TermOk_eq h.al h.af h.s (pI_RuneBegin_eq (F+68) _))
theorem pS_PaneOk_f {p:IPane} (h:PaneF (F+70) p):pS_PaneOk (F+70) p=some (paneB p):=
 pS_PaneOk_eq (pS_TermOk_eq h.al h.af h.s (pS_RuneBegin_eq F _))
theorem loopF_rel {V:Type} {B:V->Option (V⊕O)} (I:Nat->V->Prop) (n:Nat) (bad:Nat->Bool) (R E:O) {fuel:Nat} {v:V} (h0:I 0 v) (h:∀i v,i<n->I i v->if bad i=true then B v=some (.inr R)else∃v',B v=some (.inl v')/\I (i+1) v') (he:∀v,I n v->B v=some (.inr E)) (hf:n<fuel) :
  loopF B fuel v=some (if(List.range n).any bad then R else E):=by
 have key:∀(m fuel i:Nat) (v:V),n-i=m->i<=n->m<fuel->I i v->(∀j,j<i->bad j=false)->loopF B fuel v=some (if(List.range n).any bad then R else E):=by
  intro m
  induction m with
  | zero=>
   intro fuel i v hm hi hf hv hb
   obtain rfl:i=n:=by omega
   cases fuel with
   | zero=>omega
   | succ fuel=>
    unfold loopF
    rw[he v hv,show(List.range i).any bad=false from List.any_eq_false.2 fun j hj=>by rw[hb j (List.mem_range.1 hj)];simp]
    rfl
  | succ m ih=>
   intro fuel i v hm hi hf hv hb
   cases fuel with
   | zero=>omega
   | succ fuel=>
    have:=h i v (by omega) hv
    unfold loopF
    cases hbi:bad i with
    | true=>
     rw[hbi,if_pos rfl]at this
     rw[this,show(List.range n).any bad=true from List.any_eq_true.2 ⟨i,List.mem_range.2 (by omega),hbi⟩]
     rfl
    | false=>
     rw[hbi]at this
     obtain⟨v',e,hv'⟩:=this
     rw[e]
     exact ih fuel (i+1) v' (by omega) (by omega) (by omega) hv' fun j hj=>by
      by_cases hji:j=i
      ·rw[hji];exact hbi
      ·exact hb j (by omega)
 exact key n fuel 0 v rfl (Nat.zero_le _) hf h0 fun j hj=>by omega
def prevB (l:List Int) (i:Nat) (n:Int):Bool:=match i with
 | 0=>false
 | j+1=>(match l[j]? with
  | some y=>decide (n<=y)
  | none=>false)
theorem prev_step {l:List α} {g:α->Int} {x:α} (hx:l[i]?=some x) (hl:l.length<=1000000000) (n:Int) (K:Bool->Option J) (K':α->Option J) (hK:∀y,K' y=K (decide (n<=g y))) :
  br (decide (0<(i:Int))) (gd (inK IntKind.i64 ((i:Int)-1)) (gd (0<=(i:Int)-1/\(i:Int)-1<(l.length:Int)) (bd (l[((i:Int)-1).toNat]?) K'))) (K false)=K (prevB (l.map g) i n):=by
 cases i with
 | zero=>rfl
 | succ j=>
  obtain⟨y,h1,h2,h3,h4,h5⟩:=prev_facts hx (by omega)
  rw[h2,br_t,gd_t h3,gd_t h4,h5,bd_s,hK]
  unfold prevB
  simp only[List.getElem?_map,h1,Option.map_some]
def liveG (l:List IPane) (k:Int):Bool:=l.any fun q=>q.Life==1&&q.Pid==k
noncomputable def badP (s:IState) (i:Nat):Bool:=match s.Panes[i]? with
 | none=>false
 | some p=>(!paneB p||(decide (s.Next<=p.Id)||(prevB (s.Panes.map (·.Id)) i p.Id||((s.Wins.any fun w=>w.Id==p.Id)||p.Term.S.Limit !=s.Limit))))||(p.Life==1&&liveG (s.Panes.take i) p.Pid)
structure SF (F:Nat) (s:IState):Prop where
 f:StF (F+70) s
 p:∀p∈s.Panes,PaneF (F+70) p
theorem pI_panesOk_eq (h:SF F s):pI_State_panesOk (F+70) s=some (!(List.range s.Panes.length).any (badP s)&&decide ((s.Panes.length:Int)<=24)):=by
 have hfu:=h.f.fu;have hpl:=h.f.pl;have hwl:=h.f.wl
 unfold pI_State_panesOk
 have key:loopF (pI_State_panesOk_b1 (F+70)) (F+70) (s,emptyM,s.Panes,(s.Panes.length:Int),0)=some (if(List.range s.Panes.length).any (badP s)then Sum.inr false else Sum.inl s):=by
  refine loopF_rel (fun i v=>∃o,v=(s,o,s.Panes,(s.Panes.length:Int),(i:Int))/\MapF o (liveG (s.Panes.take i))) s.Panes.length (badP s) (Sum.inr false) (Sum.inl s) ⟨_,rfl,mapF_empty⟩ ?_ ?_ (by omega)
  ·rintro i v hi ⟨o,rfl,hm⟩
   have hx:s.Panes[i]?=some s.Panes[i]:=qE1 hi
   have hmem:=qM1 hx
   obtain⟨h1,h2,h3,h4,h5⟩:=idx_facts hx (by omega)
   have hpo:=pI_PaneOk_f (h.p _ hmem)
   have htk:=take_succ_get hx
   unfold badP
   rw[hx]
   generalize s.Panes[i]=p at hx h3 hmem hpo htk
   have hprev:=prev_step (J:=IState×IPane×Obj×List IPane×Int×Int×Bool) (l:=s.Panes) (g:=(·.Id)) hx (by omega) p.Id
   simp only
   have chk:(bd (pI_PaneOk (F+70) p) fun x10=>
     br (!x10) (some (s,p,o,s.Panes,(s.Panes.length:Int),(i:Int),true)) <|
     br (decide (s.Next<=p.Id)) (some (s,p,o,s.Panes,(s.Panes.length:Int),(i:Int),true)) <|
     br (decide (0<(i:Int))) (
      gd (inK IntKind.i64 ((i:Int)-1)) <|
      gd (0<=(i:Int)-1/\(i:Int)-1<(s.Panes.length:Int)) <|
      bd (s.Panes[((i:Int)-1).toNat]?) fun x11=>
      br (decide (p.Id<=x11.Id)) (some (s,p,o,s.Panes,(s.Panes.length:Int),(i:Int),true)) <|
      bd (pI_WinAt (F+70) s p.Id) fun x12=>
      br (decide (0<=x12)) (some (s,p,o,s.Panes,(s.Panes.length:Int),(i:Int),true)) <|
      some (s,p,o,s.Panes,(s.Panes.length:Int),(i:Int),p.Term.S.Limit !=s.Limit)) <|
     bd (pI_WinAt (F+70) s p.Id) fun x13=>
     br (decide (0<=x13)) (some (s,p,o,s.Panes,(s.Panes.length:Int),(i:Int),true)) <|
     some (s,p,o,s.Panes,(s.Panes.length:Int),(i:Int),p.Term.S.Limit !=s.Limit))
     = some (s,p,o,s.Panes,(s.Panes.length:Int),(i:Int),!paneB p||(decide (s.Next<=p.Id)||(prevB (s.Panes.map (·.Id)) i p.Id||((s.Wins.any fun w=>w.Id==p.Id)||p.Term.S.Limit !=s.Limit)))):=by
    rw[hpo,bd_s,pI_WinAt_eq (by omega) (by omega)]
    simp only[bd_s,atV_nonneg]
    have hp2:=hprev (fun b=>br b (some (s,p,o,s.Panes,(s.Panes.length:Int),(i:Int),true)) (br (s.Wins.any fun y=>y.Id==p.Id) (some (s,p,o,s.Panes,(s.Panes.length:Int),(i:Int),true)) (some (s,p,o,s.Panes,(s.Panes.length:Int),(i:Int),p.Term.S.Limit !=s.Limit)))) (fun x11=>br (decide (p.Id<=x11.Id)) (some (s,p,o,s.Panes,(s.Panes.length:Int),(i:Int),true)) (br (s.Wins.any fun y=>y.Id==p.Id) (some (s,p,o,s.Panes,(s.Panes.length:Int),(i:Int),true)) (some (s,p,o,s.Panes,(s.Panes.length:Int),(i:Int),p.Term.S.Limit !=s.Limit)))) (fun y=>rfl)
    simp only[br_f]at hp2
    rw[hp2]
    cases paneB p<;>cases decide (s.Next<=p.Id)<;>cases prevB (s.Panes.map (·.Id)) i p.Id<;>cases(s.Wins.any fun y=>y.Id==p.Id)<;>rfl
   unfold pI_State_panesOk_b1
   simp only[h1,br_t,gd_t h2,h3,bd_s]
   rw[chk,bd_s]
   simp only
   generalize (!paneB p||(decide (s.Next<=p.Id)||(prevB (s.Panes.map (·.Id)) i p.Id||((s.Wins.any fun w=>w.Id==p.Id)||p.Term.S.Limit !=s.Limit))))=c
   cases c with
   | true=>simp
   | false=>
    simp only[br_f,Bool.false_or]
    rw[mapF_get hm]
    simp only[bd_s]
    have fin:∀b:Bool,b=(liveG (s.Panes.take i) p.Pid||p.Life==1)->∃v',(bd (mpPut MK.i o (Value.int IntKind.i64 p.Pid) (Value.bool b)) fun x30=>(some (s,x30,s.Panes,(s.Panes.length:Int),(i:Int)):Option (IState×Obj×List IPane×Int×Int)))=some (s,v',s.Panes,(s.Panes.length:Int),(i:Int))/\MapF v' (liveG (s.Panes.take (i+1))):=by
     intro b hb
     obtain⟨o',e,hm'⟩:=mapF_put hm p.Pid b
     refine⟨o',by rw[e,bd_s],?_⟩
     have:(fun k'=>if k'=p.Pid then b else liveG (s.Panes.take i) k')=liveG (s.Panes.take (i+1)):=by
      funext k'
      rw[htk]
      unfold liveG
      rw[List.any_append,List.any_cons,List.any_nil,Bool.or_false]
      by_cases hk:k'=p.Pid
      ·subst hk
       rw[if_pos rfl,hb]
       unfold liveG
       simp
      ·rw[if_neg hk,show(p.Pid==k')=false by simpa using fun e=>hk e.symm]
       simp
     rw[<-this]
     exact hm'
    cases hlf:(p.Life==1)with
    | true=>
     simp only[br_t,bd_s,Bool.true_and]
     cases hg:liveG (s.Panes.take i) p.Pid with
     | true=>simp
     | false=>
      simp only[br_f,Bool.false_eq_true,if_false]
      obtain⟨v',e,hm'⟩:=fin true (by rw[hlf];simp)
      rw[mapF_get hm,hg,bd_s,br_f,hlf,e,bd_s]
      simp only
      rw[h5,gd_t h4]
      exact⟨_,rfl,_,rfl,hm'⟩
    | false=>
     simp only[br_f,bd_s,Bool.false_and,Bool.false_eq_true,if_false]
     rw[mapF_get hm,bd_s]
     cases hg:liveG (s.Panes.take i) p.Pid with
     | true=>
      obtain⟨v',e,hm'⟩:=fin true (by rw[hg];simp)
      rw[br_t,e,bd_s]
      simp only
      rw[h5,gd_t h4]
      exact⟨_,rfl,_,rfl,hm'⟩
     | false=>
      obtain⟨v',e,hm'⟩:=fin false (by rw[hg,hlf];simp)
      rw[br_f,hlf,e,bd_s]
      simp only
      rw[h5,gd_t h4]
      exact⟨_,rfl,_,rfl,hm'⟩
  ·rintro v ⟨o,rfl,hm⟩
   unfold pI_State_panesOk_b1
   simp
 rw[key]
 cases(List.range s.Panes.length).any (badP s)<;>rfl
def pidsL (l:List IPane):List Int:=(l.filter fun q=>q.Life==1).map (·.Pid)
theorem pidsL_any (l:List IPane) (k:Int):((pidsL l).any fun y=>y==k)=liveG l k:=by
 unfold pidsL liveG
 rw[List.any_map,List.any_filter]
 rfl
noncomputable def badQ (s:IState) (i:Nat):Bool:=match s.Panes[i]? with
 | none=>false
 | some p=>((!paneB p||(decide (s.Next<=p.Id)||prevB (s.Panes.map (·.Id)) i p.Id))||(p.Term.S.W !=(areaV s p.Id).1||(p.Term.S.H !=(areaV s p.Id).2||p.Term.S.Limit !=s.Limit)))||(p.Life==1&&liveG (s.Panes.take i) p.Pid)
theorem pS_panes_eq (h:SF F s):pS_l14Panes (F+70) s=some (!(List.range s.Panes.length).any (badQ s)):=by
 have hfu:=h.f.fu;have hpl:=h.f.pl;have hwl:=h.f.wl
 unfold pS_l14Panes
 have key:loopF (pS_l14Panes_b1 (F+70)) (F+70) (s,[],s.Panes,(s.Panes.length:Int),0)=some (if(List.range s.Panes.length).any (badQ s)then Sum.inr false else Sum.inl ()):=by
  refine loopF_scan (fun i=>(s,pidsL (s.Panes.take i),s.Panes,(s.Panes.length:Int),(i:Int))) s.Panes.length (badQ s) (Sum.inr false) (Sum.inl ()) rfl (fun i hi=> ?_) (by unfold pS_l14Panes_b1;simp) (by omega)
  have hx:s.Panes[i]?=some s.Panes[i]:=qE1 hi
  have hmem:=qM1 hx
  obtain⟨h1,h2,h3,h4,h5⟩:=idx_facts hx (by omega)
  have hpo:=pS_PaneOk_f (h.p _ hmem)
  have htk:=take_succ_get hx
  have hpll:(pidsL (s.Panes.take i)).length<=i:=by
   unfold pidsL
   rw[List.length_map]
   have:=List.length_filter_le (fun q=>q.Life==1) (s.Panes.take i)
   rw[List.length_take]at this
   omega
  generalize s.Panes[i]=p at hx h3 hmem hpo htk
  have hbad:badQ s i=(((!paneB p||(decide (s.Next<=p.Id)||prevB (s.Panes.map (·.Id)) i p.Id))||(p.Term.S.W !=(areaV s p.Id).1||(p.Term.S.H !=(areaV s p.Id).2||p.Term.S.Limit !=s.Limit)))||(p.Life==1&&liveG (s.Panes.take i) p.Pid)):=by unfold badQ;rw[hx]
  have hnext:pidsL (s.Panes.take (i+1))=if(p.Life==1)=true then pidsL (s.Panes.take i)++ [p.Pid]else pidsL (s.Panes.take i):=by
   rw[htk]
   unfold pidsL
   rw[List.filter_append,List.map_append]
   cases hl:(p.Life==1)<;>simp[hl]
  rw[hnext]
  have hr:roomB K.int (pidsL (s.Panes.take i)++ [p.Pid]).length:=roomB_of (by simp;omega) (by decide)
  have hhas:pS_l02HasInt (F+70) (pidsL (s.Panes.take i)) p.Pid=some (liveG (s.Panes.take i) p.Pid):=by rw[hasInt_eq (by omega) (by omega),pidsL_any]
  generalize pidsL (s.Panes.take i)=pd at hhas hr⊢
  have hprev:=prev_step (l:=s.Panes) (g:=(·.Id)) hx (by omega) p.Id (fun b=>some (s,p,pd,s.Panes,(s.Panes.length:Int),(i:Int),b)) (fun x10=>some (s,p,pd,s.Panes,(s.Panes.length:Int),(i:Int),decide (p.Id<=x10.Id))) (fun y=>rfl)
  unfold pS_l14Panes_b1
  simp only[h1,br_t,gd_t h2,h3,bd_s,hpo]
  rw[hprev]
  have hcomb:∀(a b c:Bool),br (!a) (some (s,p,pd,s.Panes,(s.Panes.length:Int),(i:Int),true)) (br b (some (s,p,pd,s.Panes,(s.Panes.length:Int),(i:Int),true)) (some (s,p,pd,s.Panes,(s.Panes.length:Int),(i:Int),c)))=some (s,p,pd,s.Panes,(s.Panes.length:Int),(i:Int),!a||(b||c)):=by
   intro a b c;cases a<;>cases b<;>rfl
  rw[hcomb,bd_s]
  simp only
  generalize (!paneB p||(decide (s.Next<=p.Id)||prevB (s.Panes.map (·.Id)) i p.Id))=c1 at hbad⊢
  cases c1 with
  | true=>rw[hbad];simp
  | false=>
   simp only[br_f,bd_s,Bool.false_or]
   rw[pS_Area_eq h.f,bd_s]
   have hcomb2:∀(a b c:Bool),br a (some (s,p,pd,s.Panes,(s.Panes.length:Int),(i:Int),true)) (br b (some (s,p,pd,s.Panes,(s.Panes.length:Int),(i:Int),true)) (some (s,p,pd,s.Panes,(s.Panes.length:Int),(i:Int),c)))=some (s,p,pd,s.Panes,(s.Panes.length:Int),(i:Int),a||(b||c)):=by
    intro a b c;cases a<;>cases b<;>rfl
   rw[hcomb2,bd_s]
   simp only
   generalize (p.Term.S.W !=(areaV s p.Id).fst||(p.Term.S.H !=(areaV s p.Id).snd||p.Term.S.Limit !=s.Limit))=c2 at hbad⊢
   cases c2 with
   | true=>rw[hbad];simp
   | false=>
    rw[hhas]
    simp only[br_f,Bool.false_or]at hbad⊢
    rw[hbad]
    cases hlf:(p.Life==1)with
    | true=>
     simp only[br_t,bd_s,Bool.true_and]
     cases hg:liveG (s.Panes.take i) p.Pid with
     | true=>simp
     | false=>
      simp only[br_f,gd_t hr]
      rw[hlf,br_t,jn_l]
      simp only
      rw[h5,gd_t h4]
      simp
    | false=>
     simp only[br_f,bd_s,Bool.false_and]
     rw[hlf,br_f,jn_l]
     simp only
     rw[h5,gd_t h4]
     simp
 rw[key]
 cases(List.range s.Panes.length).any (badQ s)<;>rfl
theorem perm_of (ha:a.Nodup) (hb:a.length=b.length) (hs:∀x∈a,x∈b):a.Perm b:=by
 induction a generalizing b with
 | nil=>
  cases b with
  | nil=>exact .nil
  | cons y b=>simp at hb
 | cons x a ih=>
  have hx:x∈b:=hs x (List.mem_cons_self ..)
  refine(List.Perm.cons x (ih (b:=b.erase x) (List.nodup_cons.1 ha).2 ?_ fun y hy=> ?_)).trans (List.perm_cons_erase hx).symm
  ·rw[List.length_erase_of_mem hx,<-hb];simp
  ·have hne:y≠x:=fun e=>(List.nodup_cons.1 ha).1 (e▸hy)
   exact(List.mem_erase_of_ne hne).2 (hs y (List.mem_cons_of_mem _ hy))
noncomputable def onceB (a b:List Int):Bool:=(a.mergeSort fun x y=>decide (x<=y))==(b.mergeSort fun x y=>decide (x<=y))
theorem once_perm (a b:List Int):onceB a b=true↔a.Perm b:=by
 unfold onceB
 rw[beq_iff_eq]
 constructor
 ·intro h
  exact(List.mergeSort_perm a _).symm.trans (h▸List.mergeSort_perm b _)
 ·intro h
  refine List.Perm.eq_of_pairwise (le:=fun x y=>x<=y) (fun x y _ _ h1 h2=>Int.le_antisymm h1 h2) (sort_pw a) (sort_pw b) ?_
  exact(List.mergeSort_perm a _).trans (h.trans (List.mergeSort_perm b _).symm)
theorem equal_int {fuel:Nat} (ha:a.length<=1000000000) (hf:a.length<fuel):pG_slices_Equal_int fuel a b=some (a==b):=by
 unfold pG_slices_Equal_int
 by_cases hl:a.length=b.length
 ·rw[show((a.length:Int) !=(b.length:Int))=false by simp;omega,br_f]
  have key:loopF (pG_slices_Equal_int_b1 fuel) fuel (a,b,(a.length:Int),0)=some (if(List.range a.length).any (fun i=>a[i]? !=b[i]?)then Sum.inr false else Sum.inl ()):=by
   refine loopF_scan (fun i=>(a,b,(a.length:Int),(i:Int))) a.length (fun i=>a[i]? !=b[i]?) (Sum.inr false) (Sum.inl ()) rfl (fun i hi=> ?_) (by unfold pG_slices_Equal_int_b1;simp) hf
   obtain⟨h1,h2,h3,h4,h5⟩:=idx_facts (qE1 hi) (by omega)
   obtain⟨_,g2,g3,_,_⟩:=idx_facts (qE1 (l:=b) (i:=i) (by omega)) (by omega)
   unfold pG_slices_Equal_int_b1
   simp only[h1,br_t,gd_t h2,h3,bd_s,gd_t g2,g3,h5,gd_t h4]
   rw[qE1 hi,qE1 (show i<b.length by omega)]
   have:(a[i] !=b[i]'(by omega))=(some a[i] !=some (b[i]'(by omega))):=by
    rw[Bool.eq_iff_iff];simp
   rw[this]
   cases(some a[i] !=some (b[i]'(by omega)))<;>simp
  rw[key]
  cases h:(List.range a.length).any (fun i=>a[i]? !=b[i]?)with
  | true=>
   obtain⟨i,_,hi⟩:=List.any_eq_true.1 h
   have:(a==b)=false:=by
    rw[beq_eq_false_iff_ne]
    intro e;subst e;simp at hi
   rw[this];rfl
  | false=>
   have:(a==b)=true:=by
    rw[beq_iff_eq]
    refine List.ext_getElem? fun i=> ?_
    by_cases hi:i<a.length
    ·have:=List.any_eq_false.1 h i (List.mem_range.2 hi)
     simpa using this
    ·rw[List.getElem?_eq_none (by omega),List.getElem?_eq_none (by omega)]
   rw[this];rfl
 ·rw[show((a.length:Int) !=(b.length:Int))=true by simp;omega,br_t]
  rw[show(a==b)=false by rw[beq_eq_false_iff_ne];intro e;exact hl (by rw[e])]
theorem pI_once_eq {fuel:Nat} (ha:a.length<=1048576) (hb:b.length<=1048576) (hf:1048576<fuel):pI_once fuel a b=some (onceB a b):=by
 unfold pI_once
 rw[clone_int (roomB_of (by omega) (by decide)),bd_s,clone_int (roomB_of (by omega) (by decide)),bd_s,sort_ok ha,bd_s,sort_ok hb,bd_s,equal_int (by rw[List.length_mergeSort];omega) (by rw[List.length_mergeSort];omega),bd_s]
 rfl
structure SG (F:Nat) (s:IState):Prop where
 f:SF F s
 al:(s.Wins.flatMap fun w=>w.Tree).length<=1048576
 sg:(s.Sess.flatMap fun x=>x.Wins).length<=1048576
def lvw (l:List IWin):List Int:=l.flatMap fun w=>lvs w.Tree
def ssw (l:List ISess):List Int:=l.flatMap fun x=>x.Wins
theorem lvw_len:∀(l:List IWin),(lvw l).length<=(l.flatMap fun w=>w.Tree).length
 | []=>by simp[lvw]
 | w::l=>by
  have:=lvw_len l
  have:=lvs_len w.Tree
  unfold lvw at *
  rw[List.flatMap_cons,List.flatMap_cons,List.length_append,List.length_append]
  omega
theorem flat_take (g:α->List J) (l:List α) (i:Nat):((l.take i).flatMap g).length<=(l.flatMap g).length:=by
 conv=>rhs;rw[<-List.take_append_drop i l,List.flatMap_append,List.length_append]
 omega
theorem lvw_succ {l:List IWin} {w:IWin} (h:l[i]?=some w):lvw (l.take (i+1))=lvw (l.take i)++lvs w.Tree:=by
 unfold lvw;rw[take_succ_get h,List.flatMap_append];simp
theorem ssw_succ {l:List ISess} {x:ISess} (h:l[i]?=some x):ssw (l.take (i+1))=ssw (l.take i)++x.Wins:=by
 unfold ssw;rw[take_succ_get h,List.flatMap_append];simp
noncomputable def badW1 (s:IState) (i:Nat):Bool:=match s.Wins[i]? with
 | none=>false
 | some w=>decide (w.Id<1)||(decide (s.Next<=w.Id)||(prevB (s.Wins.map (·.Id)) i w.Id||(!wordB w.Name||(!(placesV w.Tree s.W s.H).2|| !((lvs w.Tree).any fun y=>y==w.Active)))))
noncomputable def badW2 (s:IState) (i:Nat):Bool:=match s.Wins[i]? with
 | none=>false
 | some w=> !(placesV w.Tree s.W s.H).2||(decide (w.Id<1)||(decide (s.Next<=w.Id)||(prevB (s.Wins.map (·.Id)) i w.Id||((s.Panes.any fun y=>y.Id==w.Id)||(!wordB w.Name|| !((leavesV w.Tree).any fun y=>y==w.Active))))))
theorem placesV_true (hh:(placesV t w h).2=true):treeB t=true:=by
 unfold placesV at hh
 split at hh
 ·rename_i h;exact h.1
 ·cases hh
theorem winsOk_b1 (h:SG F s):loopF (pI_State_winsOk_b1 (F+70)) (F+70) (s,[],[],s.Wins,(s.Wins.length:Int),0)=some (if(List.range s.Wins.length).any (badW1 s)then Sum.inr false else Sum.inl (s,lvw s.Wins,[])):=by
 have hfu:=h.f.f.fu;have hpl:=h.f.f.pl;have hwl:=h.f.f.wl
 have he:(lvw (s.Wins.take s.Wins.length))=lvw s.Wins:=by rw[List.take_length]
 rw[<-he]
 refine loopF_scan (fun i=>(s,lvw (s.Wins.take i),[],s.Wins,(s.Wins.length:Int),(i:Int))) s.Wins.length (badW1 s) (Sum.inr false) (Sum.inl (s,lvw (s.Wins.take s.Wins.length),[])) rfl (fun i hi=> ?_) (by unfold pI_State_winsOk_b1;simp) (by omega)
 have hx:s.Wins[i]?=some s.Wins[i]:=qE1 hi
 have hmem:=qM1 hx
 obtain⟨h1,h2,h3,h4,h5⟩:=idx_facts hx (by omega)
 have hsum:(lvw (s.Wins.take (i+1))).length<=1048576:=Nat.le_trans (lvw_len _) (Nat.le_trans (flat_take _ _ _) h.al)
 have ht:=h.f.f.tr _ hmem
 have hn:=h.f.f.nm _ hmem
 have hll:=lvs_len s.Wins[i].Tree
 have hsucc:=lvw_succ hx
 rw[hsucc]at hsum
 have hr:roomB K.int (lvw (s.Wins.take i)++lvs s.Wins[i].Tree).length:=roomB_of (by omega) (by decide)
 rw[hsucc]
 generalize lvw (s.Wins.take i)=A at hr⊢
 have hbad:badW1 s i=(decide (s.Wins[i].Id<1)||(decide (s.Next<=s.Wins[i].Id)||(prevB (s.Wins.map (·.Id)) i s.Wins[i].Id||(!wordB s.Wins[i].Name||(!(placesV s.Wins[i].Tree s.W s.H).2|| !((lvs s.Wins[i].Tree).any fun y=>y==s.Wins[i].Active)))))):=by unfold badW1;rw[hx]
 generalize s.Wins[i]=w at hx h3 hmem ht hn hll hr hbad⊢
 have hpl:=pI_Places_eq (fuel:=F+70) (t:=w.Tree) (w:=s.W) (h:=s.H) (by omega)
 have hwo:=pI_WordOk_eq (fuel:=F+70) (s:=w.Name) (by omega) (by omega)
 have hle:=pI_leaves_eq (fuel:=F+70) (t:=w.Tree) (by omega) (by omega)
 have hco:=contains_int (fuel:=F+70) (l:=lvs w.Tree) (n:=w.Active) (by omega) (by omega)
 have hprev:=prev_step (l:=s.Wins) (g:=(·.Id)) hx (by omega) w.Id
  (fun b=>br b (some (s,w,A,([]:List Int),s.Wins,(s.Wins.length:Int),(i:Int),true)) (br (!wordB w.Name) (some (s,w,A,[],s.Wins,(s.Wins.length:Int),(i:Int),true)) (br (!(placesV w.Tree s.W s.H).2) (some (s,w,A,[],s.Wins,(s.Wins.length:Int),(i:Int),true)) (some (s,w,A,[],s.Wins,(s.Wins.length:Int),(i:Int),!((lvs w.Tree).any fun y=>y==w.Active))))))
  (fun x=>br (decide (w.Id<=x.Id)) (some (s,w,A,([]:List Int),s.Wins,(s.Wins.length:Int),(i:Int),true)) (br (!wordB w.Name) (some (s,w,A,[],s.Wins,(s.Wins.length:Int),(i:Int),true)) (br (!(placesV w.Tree s.W s.H).2) (some (s,w,A,[],s.Wins,(s.Wins.length:Int),(i:Int),true)) (some (s,w,A,[],s.Wins,(s.Wins.length:Int),(i:Int),!((lvs w.Tree).any fun y=>y==w.Active)))))) (fun y=>rfl)
 simp only[br_f]at hprev
 unfold pI_State_winsOk_b1
 simp only[h1,br_t,gd_t h2,h3,bd_s,hpl,hwo,hle,hco]
 rw[hprev]
 have hcomb:∀a b c d e f:Bool,br a (some (s,w,A,([]:List Int),s.Wins,(s.Wins.length:Int),(i:Int),true)) (br b (some (s,w,A,[],s.Wins,(s.Wins.length:Int),(i:Int),true)) (br c (some (s,w,A,([]:List Int),s.Wins,(s.Wins.length:Int),(i:Int),true)) (br (!d) (some (s,w,A,[],s.Wins,(s.Wins.length:Int),(i:Int),true)) (br (!e) (some (s,w,A,[],s.Wins,(s.Wins.length:Int),(i:Int),true)) (some (s,w,A,[],s.Wins,(s.Wins.length:Int),(i:Int),!f))))))=some (s,w,A,[],s.Wins,(s.Wins.length:Int),(i:Int),a||(b||(c||(!d||(!e|| !f))))):=by
  intro a b c d e f;cases a<;>cases b<;>cases c<;>cases d<;>cases e<;>rfl
 rw[hcomb,bd_s,<-hbad]
 cases badW1 s i with
 | true=>simp
 | false=>
  simp only[br_f]
  rw[hle,bd_s,h5,gd_t hr,gd_t h4]
  simp
theorem winsOk_b2 (h:SG F s) (A:List Int):loopF (pI_State_winsOk_b2 (F+70)) (F+70) (s,A,[],s.Panes,(s.Panes.length:Int),0)=some (s,A,s.Panes.map (·.Id)):=by
 have hfu:=h.f.f.fu;have hpl:=h.f.f.pl;have hwl:=h.f.f.wl
 refine loopF_run (B:=pI_State_winsOk_b2 (F+70)) (fuel:=F+70) (fun i=>(s,A,(s.Panes.take i).map (·.Id),s.Panes,(s.Panes.length:Int),(i:Int))) s.Panes.length (s,A,s.Panes.map (·.Id)) rfl (fun i hi=> ?_) (by unfold pI_State_winsOk_b2;simp) (by omega)
 obtain⟨h1,h2,h3,h4,h5⟩:=idx_facts (qE1 hi) (by omega)
 have hr:roomB K.int ((s.Panes.take i).map (·.Id)++ [s.Panes[i].Id]).length:=roomB_of (by simp;omega) (by decide)
 unfold pI_State_winsOk_b2
 simp only[h1,br_t,gd_t h2,h3,bd_s,gd_t hr,h5,gd_t h4]
 rw[take_succ_get (qE1 hi),List.map_append]
 rfl
theorem pI_winsOk_eq (h:SG F s):pI_State_winsOk (F+70) s=some (!(List.range s.Wins.length).any (badW1 s)&&(decide ((s.Wins.length:Int)<=12)&&onceB (lvw s.Wins) (s.Panes.map (·.Id)))):=by
 have hfu:=h.f.f.fu;have hpl:=h.f.f.pl;have hwl:=h.f.f.wl
 have hA:(lvw s.Wins).length<=1048576:=Nat.le_trans (lvw_len _) h.al
 unfold pI_State_winsOk
 rw[winsOk_b1 h]
 cases(List.range s.Wins.length).any (badW1 s)with
 | true=>rfl
 | false=>
  simp only[Bool.false_eq_true,if_false,jn_l]
  rw[winsOk_b2 h,bd_s,pI_once_eq hA (by simp;omega) (by omega)]
  cases decide ((s.Wins.length:Int)<=12)<;>rfl
theorem l14Wins_b1 (h:SG F s):loopF (pS_l14Wins_b1 (F+70)) (F+70) (s,[],s.Wins,(s.Wins.length:Int),0)=some (if(List.range s.Wins.length).any (badW2 s)then Sum.inr false else Sum.inl (s,lvw s.Wins)):=by
 have hfu:=h.f.f.fu;have hpl:=h.f.f.pl;have hwl:=h.f.f.wl
 have he:(lvw (s.Wins.take s.Wins.length))=lvw s.Wins:=by rw[List.take_length]
 rw[<-he]
 refine loopF_scan (fun i=>(s,lvw (s.Wins.take i),s.Wins,(s.Wins.length:Int),(i:Int))) s.Wins.length (badW2 s) (Sum.inr false) (Sum.inl (s,lvw (s.Wins.take s.Wins.length))) rfl (fun i hi=> ?_) (by unfold pS_l14Wins_b1;simp) (by omega)
 have hx:s.Wins[i]?=some s.Wins[i]:=qE1 hi
 have hmem:=qM1 hx
 obtain⟨h1,h2,h3,h4,h5⟩:=idx_facts hx (by omega)
 have hsum:(lvw (s.Wins.take (i+1))).length<=1048576:=Nat.le_trans (lvw_len _) (Nat.le_trans (flat_take _ _ _) h.al)
 have ht:=h.f.f.tr _ hmem
 have hn:=h.f.f.nm _ hmem
 have hsucc:=lvw_succ hx
 rw[hsucc]at hsum
 have hr:roomB K.int (lvw (s.Wins.take i)++lvs s.Wins[i].Tree).length:=roomB_of (by omega) (by decide)
 rw[hsucc]
 generalize lvw (s.Wins.take i)=A at hr⊢
 have hbad:badW2 s i=(!(placesV s.Wins[i].Tree s.W s.H).2||(decide (s.Wins[i].Id<1)||(decide (s.Next<=s.Wins[i].Id)||(prevB (s.Wins.map (·.Id)) i s.Wins[i].Id||((s.Panes.any fun y=>y.Id==s.Wins[i].Id)||(!wordB s.Wins[i].Name|| !((leavesV s.Wins[i].Tree).any fun y=>y==s.Wins[i].Active))))))):=by unfold badW2;rw[hx]
 generalize s.Wins[i]=w at hx h3 hmem ht hn hr hbad⊢
 have hlv:=leavesV_len w.Tree
 have hpl':=pS_Places_eq (fuel:=F+70) (t:=w.Tree) (w:=s.W) (h:=s.H) (by omega)
 have hwo:=pS_WordOk_eq (fuel:=F+70) (s:=w.Name) (by omega) (by omega)
 have hle:=pS_Leaves_eq (fuel:=F+70) (t:=w.Tree) (by omega)
 have hco:=hasInt_eq (fuel:=F+70) (l:=leavesV w.Tree) (n:=w.Active) (by omega) (by omega)
 have hpa:=pS_PaneAt_eq (fuel:=F+70) (s:=s) (n:=w.Id) (by omega) (by omega)
 have hprev:=prev_step (l:=s.Wins) (g:=(·.Id)) hx (by omega) w.Id
  (fun b=>br b (some (s,w,A,s.Wins,(s.Wins.length:Int),(i:Int),true)) (br (s.Panes.any fun y=>y.Id==w.Id) (some (s,w,A,s.Wins,(s.Wins.length:Int),(i:Int),true)) (br (!wordB w.Name) (some (s,w,A,s.Wins,(s.Wins.length:Int),(i:Int),true)) (some (s,w,A,s.Wins,(s.Wins.length:Int),(i:Int),!((leavesV w.Tree).any fun y=>y==w.Active))))))
  (fun x=>br (decide (w.Id<=x.Id)) (some (s,w,A,s.Wins,(s.Wins.length:Int),(i:Int),true)) (br (s.Panes.any fun y=>y.Id==w.Id) (some (s,w,A,s.Wins,(s.Wins.length:Int),(i:Int),true)) (br (!wordB w.Name) (some (s,w,A,s.Wins,(s.Wins.length:Int),(i:Int),true)) (some (s,w,A,s.Wins,(s.Wins.length:Int),(i:Int),!((leavesV w.Tree).any fun y=>y==w.Active)))))) (fun y=>rfl)
 simp only[br_f]at hprev
 unfold pS_l14Wins_b1
 simp only[h1,br_t,gd_t h2,h3,bd_s,hpl',hwo,hle,hco,hpa,atV_nonneg]
 rw[hprev]
 have hcomb:∀a b c d e f g:Bool,br (!a) (some (s,w,A,s.Wins,(s.Wins.length:Int),(i:Int),true)) (br b (some (s,w,A,s.Wins,(s.Wins.length:Int),(i:Int),true)) (br c (some (s,w,A,s.Wins,(s.Wins.length:Int),(i:Int),true)) (br d (some (s,w,A,s.Wins,(s.Wins.length:Int),(i:Int),true)) (br e (some (s,w,A,s.Wins,(s.Wins.length:Int),(i:Int),true)) (br (!f) (some (s,w,A,s.Wins,(s.Wins.length:Int),(i:Int),true)) (some (s,w,A,s.Wins,(s.Wins.length:Int),(i:Int),!g)))))))=some (s,w,A,s.Wins,(s.Wins.length:Int),(i:Int),!a||(b||(c||(d||(e||(!f|| !g)))))):=by
  intro a b c d e f g;cases a<;>cases b<;>cases c<;>cases d<;>cases e<;>cases f<;>rfl
 rw[hcomb,bd_s,<-hbad]
 cases hb:badW2 s i with
 | true=>simp
 | false=>
  have hp:(placesV w.Tree s.W s.H).2=true:=by
   rw[hb]at hbad
   cases hp:(placesV w.Tree s.W s.H).2 with
   | true=>rfl
   | false=>rw[hp]at hbad;simp at hbad
  have hl:leavesV w.Tree=lvs w.Tree:=by unfold leavesV;rw[if_pos (placesV_true hp)]
  simp only[br_f]
  rw[hle,bd_s,h5,hl,gd_t hr,gd_t h4]
  simp
def badU (all ids:List Int) (i:Nat):Bool:=match all[i]? with
 | none=>false
 | some x=>((all.take i).any fun y=>y==x)|| !(ids.any fun y=>y==x)
theorem viewL_take {l:List Int}:viewL false l (0+0) ((i:Int).toNat-0)=l.take i:=by
 unfold viewL
 simp
theorem l14Wins_b2 (h:SG F s) (hA:A.length<=1048576):loopF (pS_l14Wins_b2 (F+70)) (F+70) (s,A,(A.length:Int),0)=some (if(List.range A.length).any (badU A (s.Panes.map (·.Id)))then Sum.inr false else Sum.inl (s,A)):=by
 have hfu:=h.f.f.fu;have hpl:=h.f.f.pl;have hwl:=h.f.f.wl
 refine loopF_scan (B:=pS_l14Wins_b2 (F+70)) (fuel:=F+70) (fun i=>(s,A,(A.length:Int),(i:Int))) A.length (badU A (s.Panes.map (·.Id))) (Sum.inr false) (Sum.inl (s,A)) rfl (fun i hi=> ?_) (by unfold pS_l14Wins_b2;simp) (by omega)
 have hx:A[i]?=some A[i]:=qE1 hi
 obtain⟨h1,h2,h3,h4,h5⟩:=idx_facts hx (by omega)
 have hbad:badU A (s.Panes.map (·.Id)) i=(((A.take i).any fun y=>y==A[i])|| !(s.Panes.any fun y=>y.Id==A[i])):=by
  unfold badU;rw[hx];simp only[List.any_map];rfl
 generalize A[i]=x at hx h3 hbad
 have hco:=hasInt_eq (fuel:=F+70) (l:=A.take i) (n:=x) (by rw[List.length_take];omega) (by rw[List.length_take];omega)
 have hpa:=pS_PaneAt_eq (fuel:=F+70) (s:=s) (n:=x) (by omega) (by omega)
 unfold pS_l14Wins_b2
 simp only[h1,br_t,gd_t h2,Nat.zero_add,h3,bd_s,gd_p (show(0:Int)<=(i:Int)/\(i:Int)<=(A.length:Int)from⟨by omega,by omega⟩)]
 rw[show viewL false A 0 ((i:Int).toNat-0)=A.take i from viewL_take,hco,bd_s,hpa,bd_s,atV_neg]
 have hcomb:∀a b:Bool,br a (some (s,A,(A.length:Int),(i:Int),true)) (some (s,A,(A.length:Int),(i:Int),!b))=some (s,A,(A.length:Int),(i:Int),a|| !b):=by
  intro a b;cases a<;>rfl
 rw[hcomb,bd_s,<-hbad]
 cases badU A (s.Panes.map (·.Id)) i with
 | true=>simp
 | false=>simp only[br_f];rw[h5,gd_t h4];simp
theorem pS_l14Wins_eq (h:SG F s):pS_l14Wins (F+70) s=some (!(List.range s.Wins.length).any (badW2 s)&&(!(List.range (lvw s.Wins).length).any (badU (lvw s.Wins) (s.Panes.map (·.Id)))&&((lvw s.Wins).length:Int)==(s.Panes.length:Int))):=by
 have hA:(lvw s.Wins).length<=1048576:=Nat.le_trans (lvw_len _) h.al
 unfold pS_l14Wins
 rw[l14Wins_b1 h]
 cases(List.range s.Wins.length).any (badW2 s)with
 | true=>rfl
 | false=>
  simp only[Bool.false_eq_true,if_false,jn_l]
  rw[l14Wins_b2 h hA]
  cases(List.range (lvw s.Wins).length).any (badU (lvw s.Wins) (s.Panes.map (·.Id)))<;>rfl
noncomputable def badX (s:IState) (i:Nat):Bool:=match s.Sess[i]? with
 | none=>false
 | some x=> !wordB x.Name||(atV (fun y=>decide (y.Name=x.Name)) s.Sess !=(i:Int)|| !(x.Wins.any fun y=>y==x.Active))
theorem ssw_len (h:SG F s) (i:Nat):(ssw (s.Sess.take i)).length<=1048576:=Nat.le_trans (flat_take _ _ _) h.sg
theorem sessOk_b1 (h:SG F s):loopF (pI_State_sessOk_b1 (F+70)) (F+70) (s,[],[],s.Sess,(s.Sess.length:Int),0)=some (if(List.range s.Sess.length).any (badX s)then Sum.inr false else Sum.inl (s,ssw s.Sess,[])):=by
 have hfu:=h.f.f.fu;have hpl:=h.f.f.pl;have hsl:=h.f.f.sl
 have he:(ssw (s.Sess.take s.Sess.length))=ssw s.Sess:=by rw[List.take_length]
 rw[<-he]
 refine loopF_scan (fun i=>(s,ssw (s.Sess.take i),[],s.Sess,(s.Sess.length:Int),(i:Int))) s.Sess.length (badX s) (Sum.inr false) (Sum.inl (s,ssw (s.Sess.take s.Sess.length),[])) rfl (fun i hi=> ?_) (by unfold pI_State_sessOk_b1;simp) (by omega)
 have hx:s.Sess[i]?=some s.Sess[i]:=qE1 hi
 have hmem:=qM1 hx
 obtain⟨h1,h2,h3,h4,h5⟩:=idx_facts hx (by omega)
 have hsum:=ssw_len h (i+1)
 have hn:=h.f.f.sn _ hmem
 have hw:=h.f.f.sw _ hmem
 have hsucc:=ssw_succ hx
 rw[hsucc]at hsum⊢
 have hr:roomB K.int (ssw (s.Sess.take i)++s.Sess[i].Wins).length:=roomB_of (by omega) (by decide)
 generalize ssw (s.Sess.take i)=A at hr⊢
 have hbad:badX s i=(!wordB s.Sess[i].Name||(atV (fun y=>decide (y.Name=s.Sess[i].Name)) s.Sess !=(i:Int)|| !(s.Sess[i].Wins.any fun y=>y==s.Sess[i].Active))):=by unfold badX;rw[hx]
 generalize s.Sess[i]=x at hx h3 hmem hn hw hr hbad⊢
 have hwo:=pI_WordOk_eq (fuel:=F+70) (s:=x.Name) (by omega) (by omega)
 have hsa:=pI_SessAt_eq (fuel:=F+70) (s:=s) (n:=x.Name) (by omega) (by omega)
 have hco:=contains_int (fuel:=F+70) (l:=x.Wins) (n:=x.Active) (by omega) (by omega)
 unfold pI_State_sessOk_b1
 simp only[h1,br_t,gd_t h2,h3,bd_s,hwo,hsa,hco]
 have hcomb:∀a b c:Bool,br (!a) (some (s,x,A,([]:List Int),s.Sess,(s.Sess.length:Int),(i:Int),true)) (br b (some (s,x,A,[],s.Sess,(s.Sess.length:Int),(i:Int),true)) (some (s,x,A,[],s.Sess,(s.Sess.length:Int),(i:Int),!c)))=some (s,x,A,[],s.Sess,(s.Sess.length:Int),(i:Int),!a||(b|| !c)):=by
  intro a b c;cases a<;>cases b<;>rfl
 rw[hcomb,bd_s,<-hbad]
 cases badX s i with
 | true=>simp
 | false=>
  simp only[br_f]
  rw[h5,gd_t hr,gd_t h4]
  simp
theorem sessOk_b2 (h:SG F s) (A:List Int):loopF (pI_State_sessOk_b2 (F+70)) (F+70) (s,A,[],s.Wins,(s.Wins.length:Int),0)=some (s,A,s.Wins.map (·.Id)):=by
 have hfu:=h.f.f.fu;have hpl:=h.f.f.pl;have hwl:=h.f.f.wl
 refine loopF_run (B:=pI_State_sessOk_b2 (F+70)) (fuel:=F+70) (fun i=>(s,A,(s.Wins.take i).map (·.Id),s.Wins,(s.Wins.length:Int),(i:Int))) s.Wins.length (s,A,s.Wins.map (·.Id)) rfl (fun i hi=> ?_) (by unfold pI_State_sessOk_b2;simp) (by omega)
 obtain⟨h1,h2,h3,h4,h5⟩:=idx_facts (qE1 hi) (by omega)
 have hr:roomB K.int ((s.Wins.take i).map (·.Id)++ [s.Wins[i].Id]).length:=roomB_of (by simp;omega) (by decide)
 unfold pI_State_sessOk_b2
 simp only[h1,br_t,gd_t h2,h3,bd_s,gd_t hr,h5,gd_t h4]
 rw[take_succ_get (qE1 hi),List.map_append]
 rfl
theorem pI_sessOk_eq (h:SG F s):pI_State_sessOk (F+70) s=some (!(List.range s.Sess.length).any (badX s)&&(decide ((s.Sess.length:Int)<=8)&&onceB (ssw s.Sess) (s.Wins.map (·.Id)))):=by
 have hfu:=h.f.f.fu;have hpl:=h.f.f.pl;have hwl:=h.f.f.wl
 unfold pI_State_sessOk
 rw[sessOk_b1 h]
 cases(List.range s.Sess.length).any (badX s)with
 | true=>rfl
 | false=>
  simp only[Bool.false_eq_true,if_false,jn_l]
  have hsg:(ssw s.Sess).length<=1048576:=h.sg
  rw[sessOk_b2 h,bd_s,pI_once_eq hsg (by simp;omega) (by omega)]
  cases decide ((s.Sess.length:Int)<=8)<;>rfl
theorem l14Sess_b1 (h:SG F s):loopF (pS_l14Sess_b1 (F+70)) (F+70) (s,[],s.Sess,(s.Sess.length:Int),0)=some (if(List.range s.Sess.length).any (badX s)then Sum.inr false else Sum.inl (s,ssw s.Sess)):=by
 have hfu:=h.f.f.fu;have hpl:=h.f.f.pl;have hsl:=h.f.f.sl
 have he:(ssw (s.Sess.take s.Sess.length))=ssw s.Sess:=by rw[List.take_length]
 rw[<-he]
 refine loopF_scan (fun i=>(s,ssw (s.Sess.take i),s.Sess,(s.Sess.length:Int),(i:Int))) s.Sess.length (badX s) (Sum.inr false) (Sum.inl (s,ssw (s.Sess.take s.Sess.length))) rfl (fun i hi=> ?_) (by unfold pS_l14Sess_b1;simp) (by omega)
 have hx:s.Sess[i]?=some s.Sess[i]:=qE1 hi
 have hmem:=qM1 hx
 obtain⟨h1,h2,h3,h4,h5⟩:=idx_facts hx (by omega)
 have hsum:=ssw_len h (i+1)
 have hn:=h.f.f.sn _ hmem
 have hw:=h.f.f.sw _ hmem
 have hsucc:=ssw_succ hx
 rw[hsucc]at hsum⊢
 have hr:roomB K.int (ssw (s.Sess.take i)++s.Sess[i].Wins).length:=roomB_of (by omega) (by decide)
 generalize ssw (s.Sess.take i)=A at hr⊢
 have hbad:badX s i=(!wordB s.Sess[i].Name||(atV (fun y=>decide (y.Name=s.Sess[i].Name)) s.Sess !=(i:Int)|| !(s.Sess[i].Wins.any fun y=>y==s.Sess[i].Active))):=by unfold badX;rw[hx]
 generalize s.Sess[i]=x at hx h3 hmem hn hw hr hbad⊢
 have hwo:=pS_WordOk_eq (fuel:=F+70) (s:=x.Name) (by omega) (by omega)
 have hsa:=pS_SessAt_eq (fuel:=F+70) (s:=s) (n:=x.Name) (by omega) (by omega)
 have hco:=hasInt_eq (fuel:=F+70) (l:=x.Wins) (n:=x.Active) (by omega) (by omega)
 unfold pS_l14Sess_b1
 simp only[h1,br_t,gd_t h2,h3,bd_s,hwo,hsa,hco]
 have hcomb:∀a b c:Bool,br (!a) (some (s,x,A,s.Sess,(s.Sess.length:Int),(i:Int),true)) (br b (some (s,x,A,s.Sess,(s.Sess.length:Int),(i:Int),true)) (some (s,x,A,s.Sess,(s.Sess.length:Int),(i:Int),!c)))=some (s,x,A,s.Sess,(s.Sess.length:Int),(i:Int),!a||(b|| !c)):=by
  intro a b c;cases a<;>cases b<;>rfl
 rw[hcomb,bd_s,<-hbad]
 cases badX s i with
 | true=>simp
 | false=>
  simp only[br_f]
  rw[h5,gd_t hr,gd_t h4]
  simp
theorem l14Sess_b2 (h:SG F s) (hA:A.length<=1048576):loopF (pS_l14Sess_b2 (F+70)) (F+70) (s,A,(A.length:Int),0)=some (if(List.range A.length).any (badU A (s.Wins.map (·.Id)))then Sum.inr false else Sum.inl (s,A)):=by
 have hfu:=h.f.f.fu;have hpl:=h.f.f.pl;have hwl:=h.f.f.wl
 refine loopF_scan (B:=pS_l14Sess_b2 (F+70)) (fuel:=F+70) (fun i=>(s,A,(A.length:Int),(i:Int))) A.length (badU A (s.Wins.map (·.Id))) (Sum.inr false) (Sum.inl (s,A)) rfl (fun i hi=> ?_) (by unfold pS_l14Sess_b2;simp) (by omega)
 have hx:A[i]?=some A[i]:=qE1 hi
 obtain⟨h1,h2,h3,h4,h5⟩:=idx_facts hx (by omega)
 have hbad:badU A (s.Wins.map (·.Id)) i=(((A.take i).any fun y=>y==A[i])|| !(s.Wins.any fun y=>y.Id==A[i])):=by
  unfold badU;rw[hx];simp only[List.any_map];rfl
 generalize A[i]=x at hx h3 hbad
 have hco:=hasInt_eq (fuel:=F+70) (l:=A.take i) (n:=x) (by rw[List.length_take];omega) (by rw[List.length_take];omega)
 have hpa:=pS_WinAt_eq (fuel:=F+70) (s:=s) (n:=x) (by omega) (by omega)
 unfold pS_l14Sess_b2
 simp only[h1,br_t,gd_t h2,Nat.zero_add,h3,bd_s,gd_p (show(0:Int)<=(i:Int)/\(i:Int)<=(A.length:Int)from⟨by omega,by omega⟩)]
 rw[show viewL false A 0 ((i:Int).toNat-0)=A.take i from viewL_take,hco,bd_s,hpa,bd_s,atV_neg]
 have hcomb:∀a b:Bool,br a (some (s,A,(A.length:Int),(i:Int),true)) (some (s,A,(A.length:Int),(i:Int),!b))=some (s,A,(A.length:Int),(i:Int),a|| !b):=by
  intro a b;cases a<;>rfl
 rw[hcomb,bd_s,<-hbad]
 cases badU A (s.Wins.map (·.Id)) i with
 | true=>simp
 | false=>simp only[br_f];rw[h5,gd_t h4];simp
theorem pS_l14Sess_eq (h:SG F s):pS_l14Sess (F+70) s=some (!(List.range s.Sess.length).any (badX s)&&(!(List.range (ssw s.Sess).length).any (badU (ssw s.Sess) (s.Wins.map (·.Id)))&&((ssw s.Sess).length:Int)==(s.Wins.length:Int))):=by
 unfold pS_l14Sess
 rw[l14Sess_b1 h]
 cases(List.range s.Sess.length).any (badX s)with
 | true=>rfl
 | false=>
  simp only[Bool.false_eq_true,if_false,jn_l]
  have hsg:(ssw s.Sess).length<=1048576:=h.sg
  rw[l14Sess_b2 h hsg]
  cases(List.range (ssw s.Sess).length).any (badU (ssw s.Sess) (s.Wins.map (·.Id)))<;>rfl
theorem any_range {n:Nat} {bad:Nat->Bool}:(List.range n).any bad=false↔∀i,i<n->bad i=false:=by
 rw[List.any_eq_false]
 constructor
 ·intro h i hi
  have:=h i (List.mem_range.2 hi)
  simpa using this
 ·intro h i hi
  rw[h i (List.mem_range.1 hi)];simp
def PanOk (s:IState):Prop:=∀i p,s.Panes[i]?=some p->paneB p=true/\p.Id<s.Next/\prevB (s.Panes.map (·.Id)) i p.Id=false/\p.Term.S.Limit=s.Limit/\(p.Life==1&&liveG (s.Panes.take i) p.Pid)=false
def DisOk (s:IState):Prop:=∀p∈s.Panes,∀w∈s.Wins,w.Id≠p.Id
def AreaOk (s:IState):Prop:=∀p∈s.Panes,p.Term.S.W=(areaV s p.Id).1/\p.Term.S.H=(areaV s p.Id).2
def WnOk (s:IState):Prop:=∀i w,s.Wins[i]?=some w->(placesV w.Tree s.W s.H).2=true/\1<=w.Id/\w.Id<s.Next/\prevB (s.Wins.map (·.Id)) i w.Id=false/\wordB w.Name=true/\((lvs w.Tree).any fun y=>y==w.Active)=true
theorem badP_iff (s:IState):(List.range s.Panes.length).any (badP s)=false↔PanOk s/\DisOk s:=by
 rw[any_range]
 constructor
 ·intro h
  have h':∀i p,s.Panes[i]?=some p->_:=fun i p hp=>by
   have h1:=h i (qS1.1 hp).1
   unfold badP at h1
   rw[hp]at h1
   simp only[Bool.or_eq_false_iff,Bool.not_eq_false',decide_eq_false_iff_not,Int.not_le,bne_eq_false_iff_eq]at h1
   exact h1
  refine⟨fun i p hp=> ?_,fun p hp w hw e=> ?_⟩
  ·obtain⟨⟨a,b,c,d,e⟩,f⟩:=h' i p hp
   exact⟨a,b,c,e,f⟩
  ·obtain⟨i,hi⟩:=List.getElem?_of_mem hp
   obtain⟨⟨a,b,c,d,_⟩,f⟩:=h' i p hi
   exact absurd (beq_iff_eq.2 e) (List.any_eq_false.1 d w hw)
 ·rintro⟨h,hd⟩ i hi
  have hp:s.Panes[i]?=some s.Panes[i]:=qE1 hi
  obtain⟨a,b,c,e,f⟩:=h i _ hp
  unfold badP
  rw[hp]
  simp only[Bool.or_eq_false_iff,Bool.not_eq_false',decide_eq_false_iff_not,Int.not_le,bne_eq_false_iff_eq]
  exact⟨⟨a,b,c,List.any_eq_false.2 fun w hw=>by simpa using hd _ (List.getElem_mem hi) w hw,e⟩,f⟩
theorem badQ_iff (s:IState):(List.range s.Panes.length).any (badQ s)=false↔PanOk s/\AreaOk s:=by
 rw[any_range]
 constructor
 ·intro h
  have h':∀i p,s.Panes[i]?=some p->_:=fun i p hp=>by
   have h1:=h i (qS1.1 hp).1
   unfold badQ at h1
   rw[hp]at h1
   simp only[Bool.or_eq_false_iff,Bool.not_eq_false',decide_eq_false_iff_not,Int.not_le,bne_eq_false_iff_eq]at h1
   exact h1
  refine⟨fun i p hp=> ?_,fun p hp=> ?_⟩
  ·obtain⟨⟨⟨a,b,c⟩,d,e,g⟩,f⟩:=h' i p hp
   exact⟨a,b,c,g,f⟩
  ·obtain⟨i,hi⟩:=List.getElem?_of_mem hp
   obtain⟨⟨⟨a,b,c⟩,d,e,g⟩,f⟩:=h' i p hi
   exact⟨d,e⟩
 ·rintro⟨h,hd⟩ i hi
  have hp:s.Panes[i]?=some s.Panes[i]:=qE1 hi
  obtain⟨a,b,c,e,f⟩:=h i _ hp
  obtain⟨d,g⟩:=hd _ (List.getElem_mem hi)
  unfold badQ
  rw[hp]
  simp only[Bool.or_eq_false_iff,Bool.not_eq_false',decide_eq_false_iff_not,Int.not_le,bne_eq_false_iff_eq]
  exact⟨⟨⟨a,b,c⟩,d,g,e⟩,f⟩
theorem badW1_iff (s:IState):(List.range s.Wins.length).any (badW1 s)=false↔WnOk s:=by
 rw[any_range]
 constructor
 ·intro h i w hw
  have h1:=h i (qS1.1 hw).1
  unfold badW1 at h1
  rw[hw]at h1
  simp only[Bool.or_eq_false_iff,Bool.not_eq_false',decide_eq_false_iff_not,Int.not_le,Int.not_lt]at h1
  obtain⟨a,b,c,d,e,f⟩:=h1
  exact⟨e,a,b,c,d,f⟩
 ·intro h i hi
  have hw:s.Wins[i]?=some s.Wins[i]:=qE1 hi
  obtain⟨e,a,b,c,d,f⟩:=h i _ hw
  unfold badW1
  rw[hw]
  simp only[Bool.or_eq_false_iff,Bool.not_eq_false',decide_eq_false_iff_not,Int.not_le,Int.not_lt]
  exact⟨a,b,c,d,e,f⟩
theorem badW2_iff (s:IState):(List.range s.Wins.length).any (badW2 s)=false↔WnOk s/\DisOk s:=by
 have hl:∀w:IWin,(placesV w.Tree s.W s.H).2=true->leavesV w.Tree=lvs w.Tree:=fun w hp=>by unfold leavesV;rw[if_pos (placesV_true hp)]
 rw[any_range]
 constructor
 ·intro h
  have h':∀i w,s.Wins[i]?=some w->_:=fun i w hp=>by
   have h1:=h i (qS1.1 hp).1
   unfold badW2 at h1
   rw[hp]at h1
   simp only[Bool.or_eq_false_iff,Bool.not_eq_false',decide_eq_false_iff_not,Int.not_le,Int.not_lt]at h1
   exact h1
  refine⟨fun i w hw=> ?_,fun p hp w hw e=> ?_⟩
  ·obtain⟨a,b,c,d,e,f,g⟩:=h' i w hw
   rw[hl w a]at g
   exact⟨a,b,c,d,f,g⟩
  ·obtain⟨i,hi⟩:=List.getElem?_of_mem hw
   obtain⟨a,b,c,d,q,f,g⟩:=h' i w hi
   exact absurd (beq_iff_eq.2 e.symm) (List.any_eq_false.1 q p hp)
 ·rintro⟨h,hd⟩ i hi
  have hw:s.Wins[i]?=some s.Wins[i]:=qE1 hi
  obtain⟨a,b,c,d,f,g⟩:=h i _ hw
  unfold badW2
  rw[hw]
  simp only[Bool.or_eq_false_iff,Bool.not_eq_false',decide_eq_false_iff_not,Int.not_le,Int.not_lt]
  exact⟨a,b,c,d,List.any_eq_false.2 fun p hp=>by simpa using fun e=>hd p hp _ (List.getElem_mem hi) e.symm,f,by rw[hl _ a];exact g⟩
theorem badU_iff (hb:b.Nodup):((List.range a.length).any (badU a b)=false/\a.length=b.length)↔a.Perm b:=by
 rw[any_range]
 constructor
 ·rintro⟨h,hl⟩
  have h':∀i x,a[i]?=some x->x∉a.take i/\x∈b:=fun i x hx=>by
   have h1:=h i (qS1.1 hx).1
   unfold badU at h1
   rw[hx]at h1
   simp only[Bool.or_eq_false_iff,Bool.not_eq_false']at h1
   obtain⟨h2,h3⟩:=h1
   refine⟨fun hm=>absurd (beq_self_eq_true x) (List.any_eq_false.1 h2 x hm),?_⟩
   obtain⟨y,hy,e⟩:=List.any_eq_true.1 h3
   rw[<-beq_iff_eq.1 e];exact hy
  refine perm_of (List.pairwise_iff_getElem.2 fun i j hi hj hij e=> ?_) hl fun x hx=> ?_
  ·refine(h' j _ (qE1 hj)).1 ?_
   rw[<-e]
   exact List.mem_take_iff_getElem.2 ⟨i,by omega,rfl⟩
  ·obtain⟨i,hi⟩:=List.getElem?_of_mem hx
   exact(h' i x hi).2
 ·intro h
  have ha:a.Nodup:=h.nodup_iff.2 hb
  refine⟨fun i hi=> ?_,h.length_eq⟩
  unfold badU
  rw[qE1 hi]
  simp only[Bool.or_eq_false_iff,Bool.not_eq_false']
  refine⟨List.any_eq_false.2 fun y hy e=> ?_,List.any_eq_true.2 ⟨a[i],h.mem_iff.1 (List.getElem_mem hi),beq_self_eq_true _⟩⟩
  obtain⟨j,hj,e'⟩:=List.mem_take_iff_getElem.1 hy
  exact List.pairwise_iff_getElem.1 ha j i (by omega) hi (by omega) (e'.trans (beq_iff_eq.1 e))
theorem asc_lt {l:List Int} (h:∀(i:Nat) x,l[i]?=some x->prevB l i x=false):∀(j i:Nat) (x y:Int),i<j->l[i]?=some x->l[j]?=some y->x<y:=by
 intro j
 induction j with
 | zero=>intro i x y hij;omega
 | succ j ih=>
  intro i x y hij hx hy
  have hj:j<l.length:=by have:=(qS1.1 hy).1;omega
  have h1:=h (j+1) y hy
  unfold prevB at h1
  simp only[qE1 hj,decide_eq_false_iff_not,Int.not_le]at h1
  by_cases e:i=j
  ·subst e
   rw[qE1 hj]at hx;cases hx;exact h1
  ·have:=ih i x l[j] (by omega) hx (qE1 hj)
   omega
theorem asc_nodup {l:List Int} (h:∀(i:Nat) x,l[i]?=some x->prevB l i x=false):l.Nodup:=
 List.pairwise_iff_getElem.2 fun i j hi hj hij e=>by
  have:=asc_lt h j i _ _ hij (qE1 hi) (qE1 hj)
  omega
theorem PanOk.nodup (h:PanOk s):(s.Panes.map (·.Id)).Nodup:=asc_nodup fun i x hx=>by
 rw[List.getElem?_map]at hx
 obtain⟨p,hp,rfl⟩:=Option.map_eq_some_iff.1 hx
 exact(h i p hp).2.2.1
theorem WnOk.nodup (h:WnOk s):(s.Wins.map (·.Id)).Nodup:=asc_nodup fun i x hx=>by
 rw[List.getElem?_map]at hx
 obtain⟨p,hp,rfl⟩:=Option.map_eq_some_iff.1 hx
 exact(h i p hp).2.2.2.1
noncomputable def areaB (s:IState) (p:IPane):Bool:=p.Term.S.W !=(areaV s p.Id).1||p.Term.S.H !=(areaV s p.Id).2
theorem areaB_iff (s:IState):s.Panes.any (areaB s)=false↔AreaOk s:=by
 rw[List.any_eq_false]
 constructor
 ·intro h p hp
  have:=h p hp
  unfold areaB at this
  simpa using this
 ·intro h p hp
  have:=h p hp
  unfold areaB
  simpa using this
noncomputable def stateB (s:IState):Bool:=isSizeB s.W s.H&&((decide (0<=s.Limit)&&decide (s.Limit<=100))&&((decide (1<=s.Next)&&decide (s.Next<=1000000))&&((!(List.range s.Panes.length).any (badP s)&&decide ((s.Panes.length:Int)<=24))&&((!(List.range s.Wins.length).any (badW1 s)&&(decide ((s.Wins.length:Int)<=12)&&onceB (lvw s.Wins) (s.Panes.map (·.Id))))&&((!(List.range s.Sess.length).any (badX s)&&(decide ((s.Sess.length:Int)<=8)&&onceB (ssw s.Sess) (s.Wins.map (·.Id))))&& !s.Panes.any (areaB s))))))
theorem pI_StateOk_1_eq {p:IPane} (h:SG F s):pI_StateOk_1 (F+70) p s=some (areaB s p,s):=by
 unfold pI_StateOk_1 areaB
 rw[pI_Area_eq h.f.f,bd_s]
 generalize areaV s p.Id=v
 obtain⟨a,b⟩:=v
 simp only
 cases(p.Term.S.W !=a)<;>rfl
theorem containsArea_eq (h:SG F s):pG_slices_ContainsFunc_IPane_I_StateOk_1 (F+70) s.Panes s=some (s.Panes.any (areaB s),s):=by
 have hfu:=h.f.f.fu;have hpl:=h.f.f.pl
 unfold pG_slices_ContainsFunc_IPane_I_StateOk_1 pG_slices_IndexFunc_IPane_I_StateOk_1
 have hh:=loopF_fnd (fuel:=F+70) (B:=pG_slices_IndexFunc_IPane_I_StateOk_1_b1 (F+70)) (fun i=>(s,s.Panes,(s.Panes.length:Int),(i:Int))) s.Panes (areaB s) (fun i=> .inr ((i:Int),s)) (.inl s) (v:=(s,s.Panes,(s.Panes.length:Int),0)) rfl (fun i x hx=>by
  obtain⟨h1,h2,h3,h4,h5⟩:=idx_facts hx (by omega)
  unfold pG_slices_IndexFunc_IPane_I_StateOk_1_b1
  simp only[h1,br_t,gd_t h2,h3,bd_s,h5,gd_t h4,pI_StateOk_1_eq h]
  cases areaB s x<;>rfl) (by unfold pG_slices_IndexFunc_IPane_I_StateOk_1_b1;simp) (by omega)
 rw[hh,<-atV_nonneg]
 unfold atV
 cases s.Panes.findIdx? (areaB s)<;>rfl
theorem pI_StateOk_eq (h:SG F s):pI_StateOk (F+70) s=some (stateB s):=by
 unfold pI_StateOk stateB
 simp only[pI_isSize_eq,pI_within_eq,pI_isId_eq,bd_s,pI_panesOk_eq h.f,pI_winsOk_eq h,pI_sessOk_eq h]
 have hcomb:∀a b c d e f:Bool,br (!a) (some (s,true)) (br (!b) (some (s,true)) (br (!c) (some (s,true)) (br (!d) (some (s,true)) (br (!e) (some (s,true)) (some (s,!f))))))=some (s,!(a&&(b&&(c&&(d&&(e&&f)))))):=by
  intro a b c d e f;cases a<;>cases b<;>cases c<;>cases d<;>cases e<;>rfl
 rw[hcomb,bd_s]
 simp only
 rw[containsArea_eq h,bd_s]
 have hfin:∀a b c d e f g:Bool,br (!(a&&(b&&(c&&(d&&(e&&f)))))) (some false) (some (!g))=some (a&&(b&&(c&&(d&&(e&&(f&& !g)))))):=by
  intro a b c d e f g;cases a<;>cases b<;>cases c<;>cases d<;>cases e<;>cases f<;>rfl
 exact hfin _ _ _ _ _ _ _
theorem pS_GridNew_eq {fuel:Nat} (w h:Int) (hf:20000<fuel):∃g,pS_GridNew fuel w h=some (g,isSizeB w h):=by
 unfold pS_GridNew
 by_cases h1:w<1
 ·exact⟨IGrid.mk 0 0 [],by rw[qT1 h1,show isSizeB w h=false by unfold isSizeB;rw[qF1 (show¬1<=w by omega)];rfl];rfl⟩
 by_cases h2:120<w
 ·exact⟨IGrid.mk 0 0 [],by rw[qF1 h1,qT1 h2,show isSizeB w h=false by unfold isSizeB;rw[qF1 (show¬w<=120 by omega)];simp];rfl⟩
 by_cases h3:h<1
 ·exact⟨IGrid.mk 0 0 [],by rw[qF1 h1,qF1 h2,qT1 h3,show isSizeB w h=false by unfold isSizeB;rw[qF1 (show¬1<=h by omega)];simp];rfl⟩
 by_cases h4:120<h
 ·exact⟨IGrid.mk 0 0 [],by rw[qF1 h1,qF1 h2,qF1 h3,qT1 h4,show isSizeB w h=false by unfold isSizeB;rw[qF1 (show¬h<=120 by omega)];simp];rfl⟩
 have hm0:0<=w*h:=Int.mul_nonneg (by omega) (by omega)
 have hm1:w*h<=120*120:=Int.mul_le_mul (by omega) (by omega) (by omega) (by omega)
 have hk:inK IntKind.i64 (w*h):=inK64 (by omega) (by omega)
 rw[qF1 h1,qF1 h2,qF1 h3,qF1 h4]
 simp only[br_f,gd_t hk,bd_s]
 by_cases h5:4000<w*h
 ·exact⟨IGrid.mk 0 0 [],by rw[qT1 h5,show isSizeB w h=false by unfold isSizeB;rw[qF1 (show¬w*h<=4000 by omega)];simp];rfl⟩
 have hs:isSizeB w h=true:=isSizeB_true.2 ⟨by omega,by omega,by omega,by omega,by omega⟩
 rw[qF1 h5,hs,br_f]
 obtain⟨n,hn⟩:=Int.eq_ofNat_of_zero_le hm0
 have key:loopF (pS_GridNew_b1 fuel) fuel (IGrid.mk 0 0 [],IGrid.mk w h [],w,h,0)=some (IGrid.mk 0 0 [],IGrid.mk w h (List.replicate n (ICell.mk 32 (IAttr.mk 0 0 false false false)))):=by
  refine loopF_run (B:=pS_GridNew_b1 fuel) (fuel:=fuel) (fun i=>(IGrid.mk 0 0 [],IGrid.mk w h (List.replicate i (ICell.mk 32 (IAttr.mk 0 0 false false false))),w,h,(i:Int))) n _ rfl (fun i hi=> ?_) (by unfold pS_GridNew_b1;simp only[gd_t hk];rw[hn];simp) (by omega)
  have hr:roomB K.iCell (List.replicate i (ICell.mk 32 (IAttr.mk 0 0 false false false))++ [ICell.mk 32 (IAttr.mk 0 0 false false false)]).length:=roomB_of (by simp;omega) (by decide)
  unfold pS_GridNew_b1 pS_l07Blank
  simp only[gd_t hk,bd_s]
  rw[hn,qT1 (show(i:Int)<(n:Int) by omega),br_t,gd_t hr,gd_t (inK64 (v:=(i:Int)+1) (by omega) (by omega)),<-List.replicate_succ']
  rfl
 rw[key]
 exact⟨_,rfl⟩
noncomputable def stateS (s:IState):Bool:=isSizeB s.W s.H&&(!decide (s.Limit<0)&&(!decide (100<s.Limit)&&(!decide (s.Next<1)&&(!decide (1000000<s.Next)&&(!decide (24<(s.Panes.length:Int))&&(!decide (12<(s.Wins.length:Int))&&(!decide (8<(s.Sess.length:Int))&&((!(List.range s.Wins.length).any (badW2 s)&&(!(List.range (lvw s.Wins).length).any (badU (lvw s.Wins) (s.Panes.map (·.Id)))&&((lvw s.Wins).length:Int)==(s.Panes.length:Int)))&&((!(List.range s.Sess.length).any (badX s)&&(!(List.range (ssw s.Sess).length).any (badU (ssw s.Sess) (s.Wins.map (·.Id)))&&((ssw s.Sess).length:Int)==(s.Wins.length:Int)))&& !(List.range s.Panes.length).any (badQ s))))))))))
theorem pS_StateOk_eq' (h:SG F s):pS_StateOk (F+70) s=some (stateS s):=by
 have hfu:=h.f.f.fu
 obtain⟨g,hg⟩:=pS_GridNew_eq (fuel:=F+70) s.W s.H (by omega)
 unfold pS_StateOk stateS
 simp only[hg,bd_s,pS_l14Wins_eq h,pS_l14Sess_eq h,pS_panes_eq h.f]
 have hcomb:∀a b c d e f g k:Bool,br (!a) (some (s,true)) (br b (some (s,true)) (br c (some (s,true)) (br d (some (s,true)) (br e (some (s,true)) (br f (some (s,true)) (br g (some (s,true)) (some (s,k))))))))=some (s,!(a&&(!b&&(!c&&(!d&&(!e&&(!f&&(!g&& !k)))))))):=by
  intro a b c d e f g k;cases a<;>cases b<;>cases c<;>cases d<;>cases e<;>cases f<;>cases g<;>cases k<;>rfl
 rw[hcomb,bd_s]
 simp only
 rw[pS_l14Wins_eq h,bd_s,pS_l14Sess_eq h,bd_s,pS_panes_eq h.f,bd_s]
 have hfin:∀z a b c:Bool,br (!z) (some false) (bd (br a (br b (some c) (some false)) (some false)) fun x=>some x)=some (z&&(a&&(b&&c))):=by
  intro z a b c;cases z<;>cases a<;>cases b<;>cases c<;>rfl
 rw[hfin]
 simp only[Bool.and_assoc]
theorem stateB_eq (s:IState):stateS s=stateB s:=by
 rw[Bool.eq_iff_iff]
 unfold stateS stateB
 simp only[Bool.and_eq_true,Bool.not_eq_true',badP_iff,badQ_iff,badW1_iff,badW2_iff,areaB_iff,once_perm,decide_eq_true_eq,decide_eq_false_iff_not,beq_iff_eq,Int.not_lt]
 constructor
 ·rintro⟨z,l1,l2,n1,n2,c1,c2,c3,⟨⟨w,d⟩,u,ul⟩,⟨x,v,vl⟩,p,a⟩
  exact⟨z,⟨by omega,by omega⟩,⟨by omega,by omega⟩,⟨⟨p,d⟩,by omega⟩,⟨w,by omega,(badU_iff p.nodup).1 ⟨u,by simp;omega⟩⟩,⟨x,by omega,(badU_iff w.nodup).1 ⟨v,by simp;omega⟩⟩,a⟩
 ·rintro⟨z,⟨l1,l2⟩,⟨n1,n2⟩,⟨⟨p,d⟩,c1⟩,⟨w,c2,u⟩,⟨x,c3,v⟩,a⟩
  obtain⟨u1,u2⟩:=(badU_iff p.nodup).2 u
  obtain⟨v1,v2⟩:=(badU_iff w.nodup).2 v
  rw[List.length_map]at u2 v2
  exact⟨z,by omega,by omega,by omega,by omega,by omega,by omega,by omega,⟨⟨w,d⟩,u1,by omega⟩,⟨x,v1,by omega⟩,p,a⟩
theorem pS_StateOk_eq (h:SG F s):pS_StateOk (F+70) s=some (stateB s):=by rw[pS_StateOk_eq' h,stateB_eq]
def nlt (a b:ByteArray):Bool:=Op.bytesLess a.toList b.toList
theorem bl_irrefl:∀(a:List UInt8),Op.bytesLess a a=false
 | []=>rfl
 | x::a=>by simp[Op.bytesLess,bl_irrefl a]
theorem bl_trans:∀{a b c:List UInt8},Op.bytesLess a b=true->Op.bytesLess b c=true->Op.bytesLess a c=true
 | _,[],_,h,_=>by simp[Op.bytesLess]at h
 | _,_::_,[],_,h=>by simp[Op.bytesLess]at h
 | [],_::_,_::_,_,_=>rfl
 | x::a,y::b,z::c,h1,h2=>by
  simp only[Op.bytesLess,Bool.or_eq_true,decide_eq_true_eq,Bool.and_eq_true,beq_iff_eq]at h1 h2⊢
  rcases h1 with h1|⟨rfl,h1⟩
  ·rcases h2 with h2|⟨rfl,h2⟩
   ·exact .inl (UInt8.lt_trans h1 h2)
   ·exact .inl h1
  ·rcases h2 with h2|⟨rfl,h2⟩
   ·exact .inl h2
   ·exact .inr ⟨rfl,bl_trans h1 h2⟩
theorem bl_tri:∀{a b:List UInt8},Op.bytesLess a b=false->Op.bytesLess b a=false->a=b
 | [],[],_,_=>rfl
 | [],_::_,h,_=>by simp[Op.bytesLess]at h
 | _::_,[],_,h=>by simp[Op.bytesLess]at h
 | x::a,y::b,h1,h2=>by
  simp only[Op.bytesLess,Bool.or_eq_false_iff,decide_eq_false_iff_not,Bool.and_eq_false_iff,beq_eq_false_iff_ne]at h1 h2
  have hxy:x=y:=UInt8.le_antisymm (UInt8.not_lt.1 h2.1) (UInt8.not_lt.1 h1.1)
  subst hxy
  have k1:Op.bytesLess a b=false:=by
   rcases h1.2 with h|h
   ·exact absurd rfl h
   ·exact h
  have k2:Op.bytesLess b a=false:=by
   rcases h2.2 with h|h
   ·exact absurd rfl h
   ·exact h
  rw[bl_tri k1 k2]
theorem nlt_irrefl (a:ByteArray):nlt a a=false:=bl_irrefl _
theorem nlt_trans {a b c:ByteArray} (h1:nlt a b=true) (h2:nlt b c=true):nlt a c=true:=bl_trans h1 h2
theorem toList_inj {a b:ByteArray} (h:a.toList=b.toList):a=b:=by
 rw[Lib.toList_data,Lib.toList_data]at h
 cases a;cases b
 congr 1
 exact Array.toList_inj.1 h
theorem nlt_tri {a b:ByteArray} (h1:nlt a b=false) (h2:nlt b a=false):a=b:=toList_inj (bl_tri h1 h2)
theorem nlt_asymm {a b:ByteArray} (h:nlt a b=true):nlt b a=false:=by
 cases hb:nlt b a with
 | false=>rfl
 | true=>exact absurd (nlt_trans h hb) (by rw[nlt_irrefl];simp)
section
variable {α:Type} (nm:α->ByteArray)
def srtd (l:List α):Prop:=l.Pairwise fun x y=>nlt (nm x) (nm y)=true
def insN (x:α):List α->List α
 | []=> [x]
 | y::l=>if nlt (nm x) (nm y)=true then x::y::l else y::insN x l
def lessN (n:ByteArray) (l:List α):List α:=l.filter fun y=>decide (nm y≠n)
theorem lessN_srtd {l:List α} (h:srtd nm l):srtd nm (lessN nm n l):=h.filter _
theorem mem_lessN {l:List α} {y:α}:y∈lessN nm n l↔y∈l/\nm y≠n:=by
 unfold lessN
 simp
theorem mem_insN {x:α}:∀{l:List α} {y:α},y∈insN nm x l↔y=x∨y∈l
 | [],y=>by simp[insN]
 | z::l,y=>by
  unfold insN
  split
  ·simp
  ·rw[List.mem_cons,mem_insN,List.mem_cons]
   exact⟨fun h=>by rcases h with h|h|h<;>simp[h],fun h=>by rcases h with h|h|h<;>simp[h]⟩
theorem insN_srtd {x:α}:∀{l:List α},srtd nm l->(∀y∈l,nm y≠nm x)->srtd nm (insN nm x l)
 | [],_,_=>by simp[insN,srtd]
 | z::l,h,hx=>by
  obtain⟨h1,h2⟩:=List.pairwise_cons.1 h
  unfold insN
  split
  ·rename_i hz
   refine List.pairwise_cons.2 ⟨fun y hy=> ?_,h⟩
   rcases List.mem_cons.1 hy with rfl|hy
   ·exact hz
   ·exact nlt_trans hz (h1 y hy)
  ·rename_i hz
   refine List.pairwise_cons.2 ⟨fun y hy=> ?_,insN_srtd h2 fun y hy=>hx y (List.mem_cons_of_mem _ hy)⟩
   rcases(mem_insN nm).1 hy with rfl|hy
   ·cases hq:nlt (nm z) (nm y)with
    | true=>rfl
    | false=>exact absurd (nlt_tri hq (Bool.eq_false_iff.2 hz)) (hx z List.mem_cons_self)
   ·exact h1 y hy
def cntN (n:ByteArray) (l:List α):Nat:=l.countP fun y=>nlt (nm y) n
theorem insN_eq {x:α}:∀{l:List α},srtd nm l->(∀y∈l,nm y≠nm x)->insN nm x l=l.take (cntN nm (nm x) l)++x::l.drop (cntN nm (nm x) l)
 | [],_,_=>by simp[insN,cntN]
 | z::l,h,hx=>by
  obtain⟨h1,h2⟩:=List.pairwise_cons.1 h
  unfold insN
  split
  ·rename_i hz
   have h0:cntN nm (nm x) (z::l)=0:=by
    unfold cntN
    rw[List.countP_eq_zero]
    intro y hy
    rcases List.mem_cons.1 hy with rfl|hy
    ·rw[nlt_asymm hz];simp
    ·rw[nlt_asymm (nlt_trans hz (h1 y hy))];simp
   rw[h0]
   rfl
  ·rename_i hz
   have hzx:nlt (nm z) (nm x)=true:=by
    cases hq:nlt (nm z) (nm x)with
    | true=>rfl
    | false=>exact absurd (nlt_tri hq (Bool.eq_false_iff.2 hz)) (hx z List.mem_cons_self)
   have h0:cntN nm (nm x) (z::l)=cntN nm (nm x) l+1:=by
    unfold cntN
    rw[List.countP_cons_of_pos (by exact hzx)]
   rw[h0,List.take_succ_cons,List.drop_succ_cons,insN_eq h2 fun y hy=>hx y (List.mem_cons_of_mem _ hy)]
   rfl
theorem cntN_lt {n:ByteArray}:∀{l:List α} {i:Nat} {y:α},srtd nm l->l[i]?=some y->(nlt (nm y) n=true↔i<cntN nm n l)
 | [],i,y,_,h=>by simp at h
 | z::l,0,y,h,hy=>by
  obtain rfl:z=y:=by simpa using hy
  obtain⟨h1,h2⟩:=List.pairwise_cons.1 h
  unfold cntN
  constructor
  ·intro hz
   rw[List.countP_cons_of_pos (by exact hz)]
   omega
  ·intro hp
   cases hz:nlt (nm z) n with
   | true=>rfl
   | false=>
    rw[List.countP_cons_of_neg (by rw[hz];simp)]at hp
    obtain⟨y,hy,hq⟩:=List.countP_pos_iff.1 hp
    rw[nlt_trans (h1 y hy) hq]at hz
    cases hz
 | z::l,i+1,y,h,hy=>by
  obtain⟨h1,h2⟩:=List.pairwise_cons.1 h
  have hy:l[i]?=some y:=by simpa using hy
  rw[cntN_lt h2 hy]
  cases hz:nlt (nm z) n with
  | true=>
   unfold cntN
   rw[List.countP_cons_of_pos (by exact hz)]
   omega
  | false=>
   have h0:∀w∈l,nlt (nm w) n=false:=fun w hw=>by
    cases hq:nlt (nm w) n with
    | false=>rfl
    | true=>rw[nlt_trans (h1 w hw) hq]at hz;cases hz
   unfold cntN
   rw[List.countP_cons_of_neg (by rw[hz];simp),List.countP_eq_zero.2 (fun w hw=>by rw[h0 w hw];simp)]
   omega
end
theorem sorted_eq_of_perm:∀{a b:List Int},a.Perm b->a.Pairwise (·<=·)->b.Pairwise (·<=·)->a=b:=fun h ha hb=>h.eq_of_pairwise (fun x y _ _ h1 h2=>Int.le_antisymm h1 h2) ha hb
theorem ids_same (hf:f.Pairwise (· < ·)):(a.mergeSort fun x y=>decide (x<=y))=f↔a.length=f.length/\a.Nodup/\∀x∈a,x∈f:=by
 have hp:(a.mergeSort fun x y=>decide (x<=y)).Perm a:=List.mergeSort_perm a _
 have hs:(a.mergeSort fun x y=>decide (x<=y)).Pairwise (·<=·):=by
  have:=List.pairwise_mergeSort (le:=fun(x y:Int)=>decide (x<=y)) (fun a b c h1 h2=>by simp at h1 h2⊢;omega) (fun a b=>by simp;omega) a
  exact this.imp fun h=>by simpa using h
 have hf':f.Pairwise (·<=·):=hf.imp fun h=>Int.le_of_lt h
 have hn:f.Nodup:=hf.imp fun h=>Int.ne_of_lt h
 constructor
 ·intro h
  rw[h]at hp
  exact⟨hp.symm.length_eq,hp.nodup_iff.1 hn,fun x hx=>hp.mem_iff.2 hx⟩
 ·rintro⟨h1,h2,h3⟩
  exact sorted_eq_of_perm (hp.trans (perm_of h2 h1 h3)) hs hf'
def idsB (a f:List Int):Bool:=decide (a.length=f.length)&&(List.range a.length).all fun i=>match a[i]? with
 | some n=> !(a.take i).contains n&&f.contains n
 | none=>true
theorem nodup_take:a.Nodup↔∀i n,a[i]?=some n->n∉a.take i:=by
 constructor
 ·intro h i n hn hm
  obtain⟨j,hj⟩:=List.getElem?_of_mem hm
  rw[List.getElem?_take]at hj
  split at hj
  ·rename_i hlt
   have hi:=(qS1.1 hn).1
   have:=(List.getElem?_inj (by omega) h).1 (hj.trans hn.symm)
   omega
  ·cases hj
 ·intro h
  unfold List.Nodup
  rw[List.pairwise_iff_getElem]
  intro i j hi hj hij e
  refine h j a[j] (qE1 hj) ?_
  rw[<-e]
  exact qM1 (i:=i) (by rw[List.getElem?_take,if_pos hij];exact qE1 hi)
theorem idsB_iff:idsB a f=true↔a.length=f.length/\a.Nodup/\∀x∈a,x∈f:=by
 unfold idsB
 rw[Bool.and_eq_true,decide_eq_true_eq,List.all_eq_true,nodup_take]
 refine and_congr_right fun hl=>⟨fun h=>⟨fun i n hn hm=> ?_,fun x hx=> ?_⟩,fun h i hi=> ?_⟩
 ·have:=h i (List.mem_range.2 (qS1.1 hn).1)
  rw[hn]at this
  simp only[Bool.and_eq_true,Bool.not_eq_true',List.contains_eq_mem,decide_eq_false_iff_not]at this
  exact this.1 hm
 ·obtain⟨i,hi⟩:=List.getElem?_of_mem hx
  have:=h i (List.mem_range.2 (qS1.1 hi).1)
  rw[hi]at this
  simp only[Bool.and_eq_true,Bool.not_eq_true',List.contains_eq_mem,decide_eq_false_iff_not,decide_eq_true_eq]at this
  exact this.2
 ·have hi:=List.mem_range.1 hi
  rw[qE1 hi]
  simp only[Bool.and_eq_true,Bool.not_eq_true',List.contains_eq_mem,decide_eq_false_iff_not,decide_eq_true_eq]
  exact⟨h.1 i _ (qE1 hi),h.2 _ (List.getElem_mem _)⟩
abbrev lnm:ILink->ByteArray:=ILink.Name
abbrev ins:ILink->List ILink->List ILink:=insN lnm
abbrev less:ByteArray->List ILink->List ILink:=lessN lnm
abbrev e0:ByteArray:=ByteArray.mk #[]
def isTurnB (nameB:ByteArray->Bool) (t:ITurn):Bool:=
 if t.Kind=1 then nameB t.Name&&decide (t.To=e0)else if t.Kind=4 then nameB t.Name&&nameB t.To&&decide (t.Id=0)else if t.Kind=5 then nameB t.Name&&decide (t.To=e0)&&decide (t.Id=0)else false
def appl (d:List ILink) (t:ITurn):Option (List ILink):=
 let k:=d.find? fun l=>decide (l.Name=t.Name)
 if t.Kind=1 then(if k.isSome then none else some (ins ⟨t.Name,t.Id⟩ d))
 else match k with
  | none=>none
  | some x=>if t.Kind=4/\t.To=t.Name then none else if t.Kind=4 then some (ins ⟨t.To,x.Id⟩ (less t.To (less t.Name d)))else some (less t.Name d)
def fnd (d:List ILink) (n:ByteArray):Int:=match d.find? fun l=>decide (l.Name=n)with|some x=>x.Id|none=>0
def turnS (d:List ILink) (t:ITurn):List ILink:=
 if t.Kind=1 then ins ⟨t.Name,t.Id⟩ d else if t.Kind=4 then ins ⟨t.To,fnd d t.Name⟩ (less t.To (less t.Name d))else less t.Name d
def turnOkS (nameB:ByteArray->Bool) (d:List ILink) (t:ITurn):Bool:=
 nameB t.Name&&(if t.Kind=1 then decide (t.To=e0)&&decide (0<t.Id)&& !decide (0<fnd d t.Name)else if t.Kind=4 then nameB t.To&&decide (t.To≠t.Name)&&decide (t.Id=0)&&decide (0<fnd d t.Name)else if t.Kind=5 then decide (t.To=e0)&&decide (t.Id=0)&&decide (0<fnd d t.Name)else false)
structure DirOk (d:List ILink):Prop where
 s:srtd lnm d
 p:∀x∈d,0<x.Id
theorem fnd_some {d:List ILink} {x:ILink} (h:d.find? (fun l=>decide (l.Name=n))=some x):fnd d n=x.Id:=by unfold fnd;rw[h]
theorem fnd_none {d:List ILink} (h:d.find? (fun l=>decide (l.Name=n))=none):fnd d n=0:=by unfold fnd;rw[h]
theorem DirOk.pos {d:List ILink} (hd:DirOk d) (n:ByteArray):0<fnd d n↔(d.find? fun l=>decide (l.Name=n)).isSome=true:=by
 cases h:d.find? (fun l=>decide (l.Name=n))with
 | none=>rw[fnd_none h];simp
 | some x=>rw[fnd_some h];simp[hd.p x (List.mem_of_find?_eq_some h)]
theorem DirOk.less {d:List ILink} (hd:DirOk d) (n:ByteArray):DirOk (less n d):=⟨lessN_srtd lnm hd.s,fun x hx=>hd.p x ((mem_lessN lnm).1 hx).1⟩
theorem DirOk.ins {d:List ILink} (hd:DirOk d) {x:ILink} (hx:0<x.Id) (hn:∀y∈d,y.Name≠x.Name):DirOk (ins x d):=⟨insN_srtd lnm hd.s hn,fun y hy=>by
 rcases(mem_insN lnm).1 hy with rfl|hy
 ·exact hx
 ·exact hd.p y hy⟩
theorem not_found {d:List ILink} (h:(d.find? fun l=>decide (l.Name=n))=none):∀y∈d,y.Name≠n:=fun y hy e=>by
 have:=List.find?_eq_none.1 h y hy
 simp[e]at this
theorem turn_same {nameB:ByteArray->Bool} {d:List ILink} {t:ITurn} (hd:DirOk d) (ht:t.Kind=1->0<t.Id) :
  (isTurnB nameB t&&(appl d t).isSome)=turnOkS nameB d t/\(turnOkS nameB d t=true->appl d t=some (turnS d t)/\DirOk (turnS d t)):=by
 have hp:=hd.pos t.Name
 unfold isTurnB turnOkS appl turnS
 cases hk:d.find? (fun l=>decide (l.Name=t.Name))with
 | none=>
  have h0:¬0<fnd d t.Name:=by rw[hp,hk];simp
  rw[qF1 h0]
  by_cases h1:t.Kind=1
  ·simp only[h1,if_true,Option.isSome_none,Bool.false_eq_true,if_false,Option.isSome_some,qT1 (ht h1),Bool.and_true,Bool.not_false,Bool.and_eq_true,true_and]
   exact fun _=>hd.ins (ht h1) (not_found hk)
  ·simp[h1]
 | some x=>
  have h0:0<fnd d t.Name:=by rw[hp,hk];simp
  have hx:fnd d t.Name=x.Id:=fnd_some hk
  rw[qT1 h0]
  by_cases h1:t.Kind=1
  ·simp[h1]
  ·by_cases h4:t.Kind=4
   ·have h14:¬(4:Int)=1:=by omega
    by_cases he:t.To=t.Name
    ·simp[h4,he,h14]
    ·simp only[h4,h14,if_false,if_true,he,and_false,Option.isSome_some,Bool.and_true,ne_eq,not_false_eq_true,decide_true,hx]
     refine⟨by cases nameB t.Name<;>cases nameB t.To<;>rfl,fun _=>⟨trivial,((hd.less _).less _).ins (by rw[<-hx];exact h0) fun y hy=>((mem_lessN lnm).1 hy).2⟩⟩
   ·by_cases h5:t.Kind=5
    ·simp only[h5,show¬(5:Int)=1 by omega,show¬(5:Int)=4 by omega,if_false,if_true,false_and,Option.isSome_some,Bool.and_true,Bool.and_assoc,true_and]
     exact fun _=>hd.less _
    ·simp[h1,h4,h5]
def turnsI (nameB:ByteArray->Bool):List ILink->List ITurn->Bool
 | _,[]=>true
 | d,t::l=>isTurnB nameB t&&match appl d t with|some d'=>turnsI nameB d' l|none=>false
def turnsS (nameB:ByteArray->Bool):List ILink->List ITurn->Bool
 | _,[]=>true
 | d,t::l=>turnOkS nameB d t&&turnsS nameB (turnS d t) l
theorem turns_same {nameB:ByteArray->Bool}:∀{l:List ITurn} {d:List ILink},DirOk d->(∀t∈l,t.Kind=1->0<t.Id)->turnsI nameB d l=turnsS nameB d l/\(turnsS nameB d l=true->DirOk (l.foldl turnS d))
 | [],d,hd,_=>⟨rfl,fun _=>hd⟩
 | t::l,d,hd,ht=>by
  obtain⟨h1,h2⟩:=turn_same (nameB:=nameB) hd (ht t List.mem_cons_self)
  unfold turnsI turnsS
  cases hb:turnOkS nameB d t with
  | false=>
   rw[hb]at h1
   refine⟨?_,fun h=>by simp at h⟩
   cases ha:appl d t with
   | none=>simp
   | some d'=>rw[ha]at h1;simp at h1;simp[h1]
  | true=>
   obtain⟨h3,h4⟩:=h2 hb
   rw[hb,h3]at h1
   obtain⟨h5,h6⟩:=turns_same (nameB:=nameB) h4 fun t' h=>ht t' (List.mem_cons_of_mem _ h)
   rw[h3]
   simp only[Option.isSome_some,Bool.and_true]at h1
   simp only[h1,Bool.true_and,h5,List.foldl_cons,true_and]
   exact h6
def idsOf (kept:List ILink) (turns:List ITurn):List Int:=kept.map (·.Id)++(turns.filter fun t=>decide (t.Kind=1)).map (·.Id)
theorem links_same {nameB:ByteArray->Bool} {turns:List ITurn} (hf:f.Pairwise (· < ·)) (hp:∀x∈f,0<x) (hk:srtd lnm kept) :
  (turnsI nameB kept turns&&decide (((idsOf kept turns).mergeSort fun x y=>decide (x<=y))=f))=(idsB (idsOf kept turns) f&&turnsS nameB kept turns):=by
 cases hb:idsB (idsOf kept turns) f with
 | false=>
  have:¬((idsOf kept turns).mergeSort fun x y=>decide (x<=y))=f:=fun h=>by
   rw[idsB_iff.2 ((ids_same hf).1 h)]at hb
   cases hb
  rw[qF1 this]
  simp
 | true=>
  have h:=idsB_iff.1 hb
  rw[qT1 ((ids_same hf).2 h),Bool.and_true,Bool.true_and]
  have hd:DirOk kept:=⟨hk,fun x hx=>hp _ (h.2.2 _ (List.mem_append_left _ (List.mem_map_of_mem hx)))⟩
  exact(turns_same hd fun t ht h1=>hp _ (h.2.2 _ (List.mem_append_right _ (List.mem_map_of_mem (List.mem_filter.2 ⟨ht,by simpa using h1⟩))))).1
structure LinksOk (nameB:ByteArray->Bool) (kept:List ILink) (turns:List ITurn) (f:List Int):Prop where
 d:DirOk kept
 t:∀t∈turns,t.Kind=1->0<t.Id
 i:∀x∈idsOf kept turns,x∈f
 s:turnsS nameB kept turns=true
theorem linksOk_of {nameB:ByteArray->Bool} {turns:List ITurn} (hp:∀x∈f,0<x) (hk:srtd lnm kept) (h:(idsB (idsOf kept turns) f&&turnsS nameB kept turns)=true):LinksOk nameB kept turns f:=by
 rw[Bool.and_eq_true]at h
 have hi:=(idsB_iff.1 h.1).2.2
 exact⟨⟨hk,fun x hx=>hp _ (hi _ (List.mem_append_left _ (List.mem_map_of_mem hx)))⟩,fun t ht h1=>hp _ (hi _ (List.mem_append_right _ (List.mem_map_of_mem (List.mem_filter.2 ⟨ht,by simpa using h1⟩)))),hi,h.2⟩
def dirV (kept:List ILink) (turns:List ITurn):List ILink:=turns.foldl turnS kept
theorem turnS_ids {d:List ILink} {t:ITurn} {S:Int->Prop} (hd:∀x∈d,S x.Id) (ht:t.Kind=1->S t.Id) (h0:t.Kind=4->S (fnd d t.Name)):∀x∈turnS d t,S x.Id:=by
 intro x hx
 unfold turnS at hx
 split at hx
 ·rename_i h1
  rcases(mem_insN lnm).1 hx with rfl|hx
  ·exact ht h1
  ·exact hd x hx
 ·split at hx
  ·rename_i h4
   rcases(mem_insN lnm).1 hx with rfl|hx
   ·exact h0 h4
   ·exact hd x ((mem_lessN lnm).1 ((mem_lessN lnm).1 hx).1).1
  ·exact hd x ((mem_lessN lnm).1 hx).1
theorem dir_ids {nameB:ByteArray->Bool} {S:Int->Prop}:∀{l:List ITurn} {d:List ILink},DirOk d->(∀t∈l,t.Kind=1->0<t.Id/\S t.Id)->turnsS nameB d l=true->(∀x∈d,S x.Id)->DirOk (dirV d l)/\∀x∈dirV d l,S x.Id
 | [],d,hd,_,_,h=>⟨hd,h⟩
 | t::l,d,hd,ht,h,hs=>by
  unfold turnsS at h
  rw[Bool.and_eq_true]at h
  have h2:=((turn_same (nameB:=nameB) hd fun h1=>(ht t List.mem_cons_self h1).1).2 h.1).2
  refine dir_ids (l:=l) (d:=turnS d t) h2 (fun t' h'=>ht t' (List.mem_cons_of_mem _ h')) h.2 (turnS_ids hs (fun h1=>(ht t List.mem_cons_self h1).2) fun h4=> ?_)
  have hf:0<fnd d t.Name:=by
   have:=h.1
   unfold turnOkS at this
   rw[if_neg (by omega),if_pos h4]at this
   simp only[Bool.and_eq_true,decide_eq_true_eq]at this
   exact this.2.2
  obtain⟨x,hx⟩:=Option.isSome_iff_exists.1 ((hd.pos t.Name).1 hf)
  rw[fnd_some hx]
  exact hs x (List.mem_of_find?_eq_some hx)
theorem LinksOk.dir {nameB:ByteArray->Bool} {turns:List ITurn} (h:LinksOk nameB kept turns f):DirOk (dirV kept turns)/\∀x∈dirV kept turns,x.Id∈f:=
 dir_ids (S:=fun n=>n∈f) h.d (fun t ht h1=>⟨h.t t ht h1,h.i _ (List.mem_append_right _ (List.mem_map_of_mem (List.mem_filter.2 ⟨ht,by simpa using h1⟩)))⟩) h.s fun x hx=>h.i _ (List.mem_append_left _ (List.mem_map_of_mem hx))
def fileV (files:List IFile) (d:List ILink) (n:ByteArray):Option IFile:=
 match d.find? fun l=>decide (l.Name=n)with
 | none=>none
 | some x=>files.find? fun f=>decide (f.Id=x.Id)
theorem fileV_some {files:List IFile} {d:List ILink} (h:∀x∈d,x.Id∈files.map (·.Id)) (n:ByteArray) {x:ILink} (hx:d.find? (fun l=>decide (l.Name=n))=some x):∃f,fileV files d n=some f/\f∈files/\f.Id=x.Id:=by
 unfold fileV
 rw[hx]
 dsimp only
 cases hf:files.find? (fun f=>decide (f.Id=x.Id))with
 | some f=>exact⟨f,rfl,List.mem_of_find?_eq_some hf,by simpa using List.find?_some hf⟩
 | none=>
  obtain⟨f,hm,he⟩:=List.mem_map.1 (h x (List.mem_of_find?_eq_some hx))
  have:=List.find?_eq_none.1 hf f hm
  simp[he]at this
theorem adj_pw {α:Type} {R:α->α->Prop} (ht:∀x y z,R x y->R y z->R x z):∀{l:List α},(∀i x y,l[i]?=some x->l[i+1]?=some y->R x y)->l.Pairwise R
 | [],_=> .nil
 | a::l,h=>by
  have hp:l.Pairwise R:=adj_pw (R:=R) ht fun i x y hx hy=>h (i+1) x y (by simpa using hx) (by simpa using hy)
  refine List.pairwise_cons.2 ⟨fun y hy=> ?_,hp⟩
  cases l with
  | nil=>cases hy
  | cons b l=>
   have hab:R a b:=h 0 a b rfl rfl
   rcases List.mem_cons.1 hy with rfl|hy
   ·exact hab
   ·exact ht _ _ _ hab ((List.pairwise_cons.1 hp).1 y hy)
def badFile (next:Int) (fs:List IFile) (i:Nat):Bool:=match fs[i]? with
 | none=>true
 | some f=>decide (f.Id<1)||decide (next<=f.Id)||(match i with|0=>false|j+1=>match fs[j]? with|some g=>decide (f.Id<=g.Id)|none=>true)||decide (f.Safe<0)||decide ((f.Body.length:Int)<f.Safe)
def filesB (next:Int) (fs:List IFile):Bool:= !(List.range fs.length).any (badFile next fs)
theorem filesB_ok {fs:List IFile} (h:filesB next fs=true):(fs.map (·.Id)).Pairwise (· < ·)/\∀x∈fs.map (·.Id),0<x:=by
 unfold filesB at h
 simp only[Bool.not_eq_true',List.any_eq_false,List.mem_range,Bool.not_eq_true]at h
 have key:∀i f,fs[i]?=some f->badFile next fs i=false:=fun i f hf=>h i (qS1.1 hf).1
 constructor
 ·rw[List.pairwise_map]
  refine adj_pw (R:=fun(x y:IFile)=>x.Id<y.Id) (fun _ _ _ h1 h2=>Int.lt_trans h1 h2) fun i x y hx hy=> ?_
  have:=key (i+1) y hy
  unfold badFile at this
  rw[hy]at this
  simp only[hx,Bool.or_eq_false_iff,decide_eq_false_iff_not]at this
  omega
 ·intro x hx
  obtain⟨f,hf,rfl⟩:=List.mem_map.1 hx
  obtain⟨i,hi⟩:=List.getElem?_of_mem hf
  have:=key i f hi
  unfold badFile at this
  rw[hi]at this
  simp only[Bool.or_eq_false_iff,decide_eq_false_iff_not]at this
  omega
def badLink (nameB:ByteArray->Bool) (ls:List ILink) (i:Nat):Bool:=match ls[i]? with
 | none=>true
 | some f=> !nameB f.Name||(match i with|0=>false|j+1=>match ls[j]? with|some g=> !nlt g.Name f.Name|none=>true)
def keptB (nameB:ByteArray->Bool) (ls:List ILink):Bool:= !(List.range ls.length).any (badLink nameB ls)
theorem keptB_ok {nameB:ByteArray->Bool} {ls:List ILink} (h:keptB nameB ls=true):srtd lnm ls:=by
 unfold keptB at h
 simp only[Bool.not_eq_true',List.any_eq_false,List.mem_range,Bool.not_eq_true]at h
 refine adj_pw (R:=fun(x y:ILink)=>nlt x.Name y.Name=true) (fun _ _ _ h1 h2=>nlt_trans h1 h2) fun i x y hx hy=> ?_
 have:=h (i+1) (qS1.1 hy).1
 unfold badLink at this
 rw[hy]at this
 simp only[hx,Bool.or_eq_false_iff,Bool.not_eq_false']at this
 exact this.2
def linksI (nameB:ByteArray->Bool) (fs:List IFile) (kept:List ILink) (turns:List ITurn):Bool:=turnsI nameB kept turns&&decide (((idsOf kept turns).mergeSort fun x y=>decide (x<=y))=fs.map (·.Id))
def linksS (nameB:ByteArray->Bool) (fs:List IFile) (kept:List ILink) (turns:List ITurn):Bool:=idsB (idsOf kept turns) (fs.map (·.Id))&&turnsS nameB kept turns
theorem disk_same {nameB:ByteArray->Bool} {fs:List IFile} {turns:List ITurn}:(filesB next fs&&(keptB nameB kept&&linksI nameB fs kept turns))=(filesB next fs&&(keptB nameB kept&&linksS nameB fs kept turns)):=by
 cases h1:filesB next fs with
 | false=>rfl
 | true=>
  cases h2:keptB nameB kept with
  | false=>rfl
  | true=>
   obtain⟨h3,h4⟩:=filesB_ok h1
   simp only[Bool.true_and]
   exact links_same h3 h4 (keptB_ok h2)
theorem disk_links {nameB:ByteArray->Bool} {fs:List IFile} {turns:List ITurn} (h:(filesB next fs&&(keptB nameB kept&&linksS nameB fs kept turns))=true):LinksOk nameB kept turns (fs.map (·.Id))/\(fs.map (·.Id)).Pairwise (· < ·):=by
 simp only[Bool.and_eq_true]at h
 obtain⟨h3,h4⟩:=filesB_ok h.1
 exact⟨linksOk_of h4 (keptB_ok h.2.1) (by rw[Bool.and_eq_true];unfold linksS at h;rw[Bool.and_eq_true]at h;exact h.2.2),h3⟩
def nOk (x:UInt8):Bool:=bOk x||(x.toNat==46)
def badN (s:ByteArray) (i:Nat):Bool:=match s[i]? with
 | some x=> !nOk x
 | none=>false
def nameB (s:ByteArray):Bool:= !(List.range s.size).any (badN s)&&(decide (1<=(s.size:Int))&&decide ((s.size:Int)<=16))
theorem dotByte (x:UInt8):∃n:Int,pG_strings_IndexByte (ByteArray.mk #[46]) (x.toNat:Int)=some n/\decide (0<=n)=(x.toNat==46):=by
 unfold pG_strings_IndexByte
 rw[gd_t (by show(1:Nat)<=_;omega)]
 refine⟨_,rfl,?_⟩
 have e:UInt8.ofNat (x.toNat:Int).toNat=x:=by rw[Int.toNat_natCast];exact UInt8.ofNat_toNat
 rw[e]
 show decide (0<=Lib.indexByte [46] x)=_
 unfold Lib.indexByte
 by_cases h:x=46
 ·subst h;rfl
 ·have h1:((46:UInt8)==x)=false:=by rw[beq_eq_false_iff_ne];exact fun e=>h e.symm
  have h2:(x.toNat==46)=false:=by rw[beq_eq_false_iff_ne];exact fun e=>h (UInt8.toNat_inj.1 e)
  rw[h1,h2]
  rfl
theorem pI_NameOk_eq {fuel:Nat} {s:ByteArray} (hs:s.size<=1048576) (hf:s.size<fuel):pI_NameOk fuel s=some (nameB s):=by
 unfold pI_NameOk pI_isPlain nameB
 have key:loopF (pI_isPlain_b1 fuel) fuel (s,16,ByteArray.mk #[46],(s.size:Int),0)=some (if(List.range s.size).any (badN s)then Sum.inr false else Sum.inl (s,16)):=by
  refine loopF_scan (fun i=>(s,16,ByteArray.mk #[46],(s.size:Int),(i:Int))) s.size (badN s) (Sum.inr false) (Sum.inl (s,16)) rfl (fun i hi=> ?_) (by unfold pI_isPlain_b1;simp) hf
  have hx:=byte_at hi
  unfold pI_isPlain_b1 badN
  rw[hx]
  generalize s[i]=x at hx
  simp only
  rw[show decide ((i:Int)<(s.size:Int))=true by simpa using hi,br_t,gd_t (by omega),show(i:Int).toNat=i by omega,hx,bd_s]
  obtain⟨a,b,c,d,e1,e2,e3,e4,e5⟩:=word_cases x
  obtain⟨n,g1,g2⟩:=dotByte x
  unfold nOk
  obtain⟨g,hg⟩:∃g,(x.toNat==46)=g:=⟨_,rfl⟩
  simp only[e1,e2,e3,e4,e5,g1,hg]at g2⊢
  have h5:(i:Int)+1=((i+1:Nat):Int):=by omega
  have hk:inK .i64 ((i:Int)+1):=inK64 (by omega) (by omega)
  cases a<;>cases b<;>cases c<;>cases d<;>cases g<;>simp only[br_t,br_f,bd_s,g2]<;>first|rfl|(refine(gd_p hk _).trans ?_;rw[h5];rfl)
 rw[key]
 cases(List.range s.size).any (badN s)with
 | true=>rfl
 | false=>
  simp only[Bool.false_eq_true,if_false,jn_l,pI_within_eq,bd_s,Bool.not_false,Bool.true_and]
theorem pS_NameOk_eq {fuel:Nat} {s:ByteArray} (hs:s.size<=1048576) (hf:s.size<fuel):pS_NameOk fuel s=some (nameB s):=by
 unfold pS_NameOk nameB
 have key:loopF (pS_NameOk_b1 fuel) fuel (s,0)=some (if(List.range s.size).any (badN s)then Sum.inr false else Sum.inl s):=by
  refine loopF_scan (fun i=>(s,(i:Int))) s.size (badN s) (Sum.inr false) (Sum.inl s) rfl (fun i hi=> ?_) (by unfold pS_NameOk_b1;simp) hf
  have hx:=byte_at hi
  unfold pS_NameOk_b1 badN
  rw[hx]
  generalize s[i]=x at hx
  simp only
  rw[show decide ((i:Int)<(s.size:Int))=true by simpa using hi,br_t]
  simp only[gd_t (show(0:Int)<=(i:Int) by omega),show(i:Int).toNat=i by omega,hx,bd_s]
  obtain⟨a,b,c,d,e1,e2,e3,e4,e5⟩:=word_cases x
  have f1:decide ((x.toNat:Int)<97)= !a:=by rw[<-e1];by_cases h:97<=(x.toNat:Int)<;>simp[h]<;>omega
  have f2:decide (122<(x.toNat:Int))= !b:=by rw[<-e2];by_cases h:(x.toNat:Int)<=122<;>simp[h]<;>omega
  have f3:decide ((x.toNat:Int)<48)= !c:=by rw[<-e3];by_cases h:48<=(x.toNat:Int)<;>simp[h]<;>omega
  have f4:decide (57<(x.toNat:Int))= !d:=by rw[<-e4];by_cases h:(x.toNat:Int)<=57<;>simp[h]<;>omega
  have f7:((x.toNat:Int) !=46)= !(x.toNat==46):=by
   by_cases h:x.toNat=46
   ·rw[h];rfl
   ·rw[show(x.toNat==46)=false from beq_eq_false_iff_ne.2 h];simp;omega
  unfold nOk
  obtain⟨g,hg⟩:∃g,(x.toNat==46)=g:=⟨_,rfl⟩
  simp only[f1,f2,f3,f4,f7,e5,hg]
  have h5:(i:Int)+1=((i+1:Nat):Int):=by omega
  have f5:a=true->b=false->c=true/\d=false:=by
   intro ha hb
   subst ha hb
   simp only[decide_eq_true_eq,decide_eq_false_iff_not]at e1 e2
   constructor
   ·rw[<-e3];simp;omega
   ·rw[<-e4];simp;omega
  have f6:a=false->b=true:=by
   intro ha
   subst ha
   simp only[decide_eq_false_iff_not]at e1
   rw[<-e2];simp;omega
  have hk:inK .i64 ((i:Int)+1):=inK64 (by omega) (by omega)
  cases a<;>cases b<;>cases c<;>cases d<;>cases g<;>simp only[br_t,br_f,bd_s,Bool.not_true,Bool.not_false]<;>first|rfl|(exact absurd (f6 rfl) (by decide))|(have f7:=f5 rfl rfl;simp at f7;done)|(refine(gd_p hk _).trans ?_;rw[h5];rfl)
 rw[key]
 cases(List.range s.size).any (badN s)with
 | true=>rfl
 | false=>
  simp only[Bool.false_eq_true,if_false,jn_l,bd_s,Bool.not_false,Bool.true_and]
  cases decide (1<=(s.size:Int))<;>rfl
structure DkF (F:Nat) (d:IDisk):Prop where
 fu:20000000<F
 fl:d.Files.length<=1048576
 fb:∀f∈d.Files,f.Body.length<=1048576
 kl:d.Kept.length<=1048576
 kn:∀x∈d.Kept,x.Name.size<=1048576
 tl:d.Turns.length<=1048576
 tn:∀t∈d.Turns,t.Name.size<=1048576/\t.To.size<=1048576
def usedV (fs:List IFile):Nat:=(fs.map fun f=>f.Body.length).sum
theorem usedV_succ {fs:List IFile} {f:IFile} (h:fs[i]?=some f):usedV (fs.take (i+1))=usedV (fs.take i)+f.Body.length:=by
 unfold usedV;rw[take_succ_get h];simp
theorem usedV_le:∀{fs:List IFile},(∀f∈fs,f.Body.length<=1048576)->usedV fs<=1048576*fs.length
 | [],_=>by simp[usedV]
 | f::fs,h=>by
  have h1:=h f List.mem_cons_self
  have h2:=usedV_le (fs:=fs) fun g hg=>h g (List.mem_cons_of_mem _ hg)
  unfold usedV at *
  rw[List.map_cons,List.sum_cons,List.length_cons]
  omega
theorem pI_used_eq (h:DkF F d):pI_Disk_used F d=some (usedV d.Files:Int):=by
 have hfu:=h.fu;have hfl:=h.fl
 unfold pI_Disk_used
 have key:loopF (pI_Disk_used_b1 F) F (0,d.Files,(d.Files.length:Int),0)=some (usedV d.Files:Int):=by
  refine loopF_run (fun i=>((usedV (d.Files.take i):Int),d.Files,(d.Files.length:Int),(i:Int))) d.Files.length _ rfl (fun i hi=> ?_) (by unfold pI_Disk_used_b1;simp) (by omega)
  have hx:d.Files[i]?=some d.Files[i]:=qE1 hi
  obtain⟨h1,h2,h3,h4,h5⟩:=idx_facts hx (by omega)
  have hu:=usedV_succ hx
  have hb:=h.fb _ (List.getElem_mem hi)
  have hl:=usedV_le (fs:=d.Files.take i) fun g hg=>h.fb g (List.mem_of_mem_take hg)
  rw[List.length_take]at hl
  generalize d.Files[i]=x at hx h3 hu hb
  unfold pI_Disk_used_b1
  simp only[h1,br_t,gd_t h2,h3,bd_s]
  rw[gd_t (inK64 (by omega) (by omega)),h5,gd_t h4,hu]
  rfl
 rw[key]
 rfl
theorem pS_used_eq (h:DkF F d):pS_l02Used F d=some (usedV d.Files:Int):=pI_used_eq h
theorem lt_not (a b:Int):decide (a<=b)= !decide (b<a):=by by_cases h:b<a<;>simp[h]<;>omega
theorem filesOk_b1 (h:DkF F d) (hn:1<=d.Next/\d.Next<=1000000):loopF (pI_Disk_filesOk_b1 F) F (d,d.Files,(d.Files.length:Int),0)=some (if(List.range d.Files.length).any (badFile d.Next d.Files)then Sum.inr false else Sum.inl d):=by
 have hfu:=h.fu;have hfl:=h.fl
 refine loopF_scan (fun i=>(d,d.Files,(d.Files.length:Int),(i:Int))) d.Files.length (badFile d.Next d.Files) (Sum.inr false) (Sum.inl d) rfl (fun i hi=> ?_) (by unfold pI_Disk_filesOk_b1;simp) (by omega)
 rw[<-br_if]
 have hx:d.Files[i]?=some d.Files[i]:=qE1 hi
 obtain⟨h1,h2,h3,h4,h5⟩:=idx_facts hx (by omega)
 have hfin:∀c:Bool,(br c (some (.inr (.inr false))) (gd (inK IntKind.i64 ((i:Int)+1)) (some (.inl (d,d.Files,(d.Files.length:Int),(i:Int)+1)))):Option ((IDisk×List IFile×Int×Int)⊕(IDisk⊕Bool)))=br c (some (.inr (.inr false))) (some (.inl (d,d.Files,(d.Files.length:Int),((i+1:Nat):Int)))):=by
  intro c
  rw[h5,gd_t h4]
 unfold pI_Disk_filesOk_b1
 simp only[h1,br_t,gd_t h2,h3,bd_s,pI_within_eq]
 rw[(wrap_iff .i64 (d.Next-1)).2 ⟨by show -9223372036854775808<=_;omega,by show _<=9223372036854775807;omega⟩]
 unfold badFile
 rw[hx]
 generalize d.Files[i]=x at hx h3
 have n1:decide (x.Id<=d.Next-1)= !decide (d.Next<=x.Id):=by rw[lt_not,decide_eq_decide.2 (show d.Next-1<x.Id↔d.Next<=x.Id by omega)]
 simp only[n1,lt_not 1 x.Id,lt_not 0 x.Safe,lt_not x.Safe (x.Body.length:Int)]
 cases i with
 | zero=>
  simp only[show decide ((0:Int)<((0:Nat):Int))=false from rfl,br_f]
  cases decide (x.Id<1)<;>cases decide (d.Next<=x.Id)<;>cases decide (x.Safe<0)<;>cases decide ((x.Body.length:Int)<x.Safe)<;>first|exact hfin true|exact hfin false
 | succ i=>
  have hi0:i<d.Files.length:=by omega
  have hg:d.Files[i]?=some d.Files[i]:=qE1 hi0
  simp only[qT1 (show(0:Int)<((i+1:Nat):Int) by omega),br_t]
  rw[gd_i64 (by omega) (by omega),gd_ix (by omega) (by omega),show(((i+1:Nat):Int)-1).toNat=i by omega,hg]
  generalize d.Files[i]=g
  simp only[bd_s]
  cases decide (x.Id<1)<;>cases decide (d.Next<=x.Id)<;>cases decide (x.Id<=g.Id)<;>cases decide (x.Safe<0)<;>cases decide ((x.Body.length:Int)<x.Safe)<;>first|exact hfin true|exact hfin false
theorem pI_filesOk_eq (h:DkF F d) (hn:1<=d.Next/\d.Next<=1000000):pI_Disk_filesOk F d=some (filesB d.Next d.Files&&(decide ((d.Files.length:Int)<=10)&&decide ((usedV d.Files:Int)<=d.Room))):=by
 unfold pI_Disk_filesOk filesB
 rw[filesOk_b1 h hn]
 cases(List.range d.Files.length).any (badFile d.Next d.Files)with
 | true=>rfl
 | false=>
  simp only[Bool.false_eq_true,if_false,jn_l,pI_used_eq h,bd_s,Bool.not_false,Bool.true_and]
  cases decide ((d.Files.length:Int)<=10)<;>rfl
theorem map_succ (g:α->J) {l:List α} {x:α} (h:l[i]?=some x):(l.take i).map g++ [g x]=(l.take (i+1)).map g:=by rw[take_succ_get h];simp
theorem diskOk_b1 (h:DkF F d):loopF (pS_DiskOk_b1 F) F (d,[],d.Files,(d.Files.length:Int),0)=some (if(List.range d.Files.length).any (badFile d.Next d.Files)then Sum.inr false else Sum.inl (d,d.Files.map (·.Id))):=by
 have hfu:=h.fu;have hfl:=h.fl
 refine loopF_scan (B:=pS_DiskOk_b1 F) (fuel:=F) (fun i=>(d,(d.Files.take i).map (·.Id),d.Files,(d.Files.length:Int),(i:Int))) d.Files.length (badFile d.Next d.Files) (Sum.inr false) (Sum.inl (d,d.Files.map (·.Id))) rfl (fun i hi=> ?_) (by unfold pS_DiskOk_b1;simp) (by omega)
 rw[<-br_if]
 have hx:d.Files[i]?=some d.Files[i]:=qE1 hi
 obtain⟨h1,h2,h3,h4,h5⟩:=idx_facts hx (by omega)
 have hm:=map_succ (fun f:IFile=>f.Id) hx
 have hr:roomB K.int ((d.Files.take (i+1)).map (·.Id)).length:=roomB_of (by rw[List.length_map,List.length_take];omega) (by decide)
 unfold pS_DiskOk_b1
 simp only[h1,br_t,gd_t h2,h3,bd_s]
 unfold badFile
 rw[hx]
 generalize d.Files[i]=x at hx h3 hm
 have hfin:∀c:Bool,(br c (some (.inr (.inr false))) (gd (roomB K.int ((d.Files.take i).map (·.Id)++ [x.Id]).length) (gd (inK IntKind.i64 ((i:Int)+1)) (some (.inl (d,(d.Files.take i).map (·.Id)++ [x.Id],d.Files,(d.Files.length:Int),(i:Int)+1))))):Option ((IDisk×List Int×List IFile×Int×Int)⊕(IDisk×List Int⊕Bool)))=br c (some (.inr (.inr false))) (some (.inl (d,(d.Files.take (i+1)).map (·.Id),d.Files,(d.Files.length:Int),((i+1:Nat):Int)))):=by
  intro c
  rw[hm,gd_t hr,h5,gd_t h4]
 cases i with
 | zero=>
  simp only[show decide ((0:Int)<((0:Nat):Int))=false from rfl,br_f]
  cases decide (x.Id<1)<;>cases decide (d.Next<=x.Id)<;>cases decide (x.Safe<0)<;>cases decide ((x.Body.length:Int)<x.Safe)<;>first|exact hfin true|exact hfin false
 | succ i=>
  have hi0:i<d.Files.length:=by omega
  have hg:d.Files[i]?=some d.Files[i]:=qE1 hi0
  simp only[qT1 (show(0:Int)<((i+1:Nat):Int) by omega),br_t]
  rw[gd_i64 (by omega) (by omega),gd_ix (by omega) (by omega),show(((i+1:Nat):Int)-1).toNat=i by omega,hg]
  generalize d.Files[i]=g
  simp only[bd_s]
  cases decide (x.Id<1)<;>cases decide (d.Next<=x.Id)<;>cases decide (x.Id<=g.Id)<;>cases decide (x.Safe<0)<;>cases decide ((x.Body.length:Int)<x.Safe)<;>first|exact hfin true|exact hfin false
theorem diskOk_b2 (h:DkF F d) (A:List Int):loopF (pS_DiskOk_b2 F) F (d,A,d.Kept,(d.Kept.length:Int),0)=some (if(List.range d.Kept.length).any (badLink nameB d.Kept)then Sum.inr false else Sum.inl (d,A)):=by
 have hfu:=h.fu;have hkl:=h.kl
 refine loopF_scan (fun i=>(d,A,d.Kept,(d.Kept.length:Int),(i:Int))) d.Kept.length (badLink nameB d.Kept) (Sum.inr false) (Sum.inl (d,A)) rfl (fun i hi=> ?_) (by unfold pS_DiskOk_b2;simp) (by omega)
 rw[<-br_if]
 have hx:d.Kept[i]?=some d.Kept[i]:=qE1 hi
 obtain⟨h1,h2,h3,h4,h5⟩:=idx_facts hx (by omega)
 have hn:=pS_NameOk_eq (fuel:=F) (h.kn _ (List.getElem_mem hi)) (by have:=h.kn _ (List.getElem_mem hi);omega)
 have hfin:∀c:Bool,(br c (some (.inr (.inr false))) (gd (inK IntKind.i64 ((i:Int)+1)) (some (.inl (d,A,d.Kept,(d.Kept.length:Int),(i:Int)+1)))):Option ((IDisk×List Int×List ILink×Int×Int)⊕(IDisk×List Int⊕Bool)))=br c (some (.inr (.inr false))) (some (.inl (d,A,d.Kept,(d.Kept.length:Int),((i+1:Nat):Int)))):=by
  intro c
  rw[h5,gd_t h4]
 unfold pS_DiskOk_b2
 simp only[h1,br_t,gd_t h2,h3,bd_s,hn]
 unfold badLink
 rw[hx]
 generalize d.Kept[i]=x at hx h3 hn
 cases i with
 | zero=>
  simp only[show decide ((0:Int)<((0:Nat):Int))=false from rfl,br_f]
  cases nameB x.Name<;>first|exact hfin true|exact hfin false
 | succ i=>
  have hi0:i<d.Kept.length:=by omega
  have hg:d.Kept[i]?=some d.Kept[i]:=qE1 hi0
  simp only[qT1 (show(0:Int)<((i+1:Nat):Int) by omega),br_t]
  rw[gd_i64 (by omega) (by omega),gd_ix (by omega) (by omega),show(((i+1:Nat):Int)-1).toNat=i by omega,hg]
  generalize d.Kept[i]=g
  simp only[bd_s]
  unfold nlt
  cases nameB x.Name<;>cases Op.bytesLess g.Name.toList x.Name.toList<;>first|exact hfin true|exact hfin false
theorem pS_l02Ids_eq (h:DkF F d):pS_l02Ids F d=some (idsOf d.Kept d.Turns):=by
 have hfu:=h.fu;have hkl:=h.kl;have htl:=h.tl
 unfold pS_l02Ids idsOf
 have k1:loopF (pS_l02Ids_b1 F) F (d,[],d.Kept,(d.Kept.length:Int),0)=some (d,d.Kept.map (·.Id)):=by
  refine loopF_run (fun i=>(d,(d.Kept.take i).map (·.Id),d.Kept,(d.Kept.length:Int),(i:Int))) d.Kept.length _ rfl (fun i hi=> ?_) (by unfold pS_l02Ids_b1;simp) (by omega)
  have hx:d.Kept[i]?=some d.Kept[i]:=qE1 hi
  obtain⟨h1,h2,h3,h4,h5⟩:=idx_facts hx (by omega)
  have hm:=map_succ (fun f:ILink=>f.Id) hx
  generalize d.Kept[i]=x at hx h3 hm
  unfold pS_l02Ids_b1
  simp only[h1,br_t,gd_t h2,h3,bd_s]
  rw[hm,gd_t (roomB_of (by rw[List.length_map,List.length_take];omega) (by decide)),h5,gd_t h4]
 have k2:loopF (pS_l02Ids_b2 F) F (d.Kept.map (·.Id),d.Turns,(d.Turns.length:Int),0)=some (d.Kept.map (·.Id)++(d.Turns.filter fun t=>decide (t.Kind=1)).map (·.Id)):=by
  refine loopF_run (fun i=>(d.Kept.map (·.Id)++((d.Turns.take i).filter fun t=>decide (t.Kind=1)).map (·.Id),d.Turns,(d.Turns.length:Int),(i:Int))) d.Turns.length _ (by simp) (fun i hi=> ?_) (by unfold pS_l02Ids_b2;simp) (by omega)
  have hx:d.Turns[i]?=some d.Turns[i]:=qE1 hi
  obtain⟨h1,h2,h3,h4,h5⟩:=idx_facts hx (by omega)
  have hlen:((d.Turns.take i).filter fun t=>decide (t.Kind=1)).length<=i:=Nat.le_trans (List.length_filter_le _ _) (by rw[List.length_take];omega)
  have hm:((d.Turns.take (i+1)).filter fun t=>decide (t.Kind=1))=((d.Turns.take i).filter fun t=>decide (t.Kind=1))++ [d.Turns[i]].filter fun t=>decide (t.Kind=1):=by rw[take_succ_get hx,List.filter_append]
  generalize d.Turns[i]=x at hx h3 hm
  unfold pS_l02Ids_b2
  simp only[h1,br_t,gd_t h2,h3,bd_s]
  by_cases hk:x.Kind=1
  ·rw[show(x.Kind==1)=true by simp[hk],br_t,gd_t (roomB_of (by simp;omega) (by decide)),bd_s]
   simp only
   rw[h5,gd_t h4,hm]
   simp[hk]
  ·rw[show(x.Kind==1)=false by simp[hk],br_f,bd_s]
   simp only
   rw[h5,gd_t h4,hm]
   simp[hk]
 rw[k1,bd_s]
 simp only
 rw[k2,bd_s]
theorem idsOf_len {turns:List ITurn}:(idsOf kept turns).length<=kept.length+turns.length:=by
 unfold idsOf
 rw[List.length_append,List.length_map,List.length_map]
 have:=List.length_filter_le (fun t:ITurn=>decide (t.Kind=1)) turns
 omega
def badId (a f:List Int) (i:Nat):Bool:=match a[i]? with
 | some n=>((a.take i).any fun y=>y==n)|| !(f.any fun y=>y==n)
 | none=>false
theorem diskOk_b3 (h:DkF F d) {B:List Int} (hA:A.length<=4000000) (hB:B.length<=4000000):loopF (pS_DiskOk_b3 F) F (d,A,B,(B.length:Int),0)=some (if(List.range B.length).any (badId B A)then Sum.inr false else Sum.inl d):=by
 have hfu:=h.fu
 refine loopF_scan (fun i=>(d,A,B,(B.length:Int),(i:Int))) B.length (badId B A) (Sum.inr false) (Sum.inl d) rfl (fun i hi=> ?_) (by unfold pS_DiskOk_b3;simp) (by omega)
 have hx:B[i]?=some B[i]:=qE1 hi
 obtain⟨h1,h2,h3,h4,h5⟩:=idx_facts hx (by omega)
 have hbad:badId B A i=(((B.take i).any fun y=>y==B[i])|| !(A.any fun y=>y==B[i])):=by
  unfold badId;rw[hx]
 generalize B[i]=x at hx h3 hbad
 have hco:=hasInt_eq (fuel:=F) (l:=B.take i) (n:=x) (by rw[List.length_take];omega) (by rw[List.length_take];omega)
 have hpa:=hasInt_eq (fuel:=F) (l:=A) (n:=x) (by omega) (by omega)
 unfold pS_DiskOk_b3
 simp only[h1,br_t,gd_t h2,Nat.zero_add,h3,bd_s,gd_p (show(0:Int)<=(i:Int)/\(i:Int)<=(B.length:Int)from⟨by omega,by omega⟩)]
 rw[show viewL false B 0 ((i:Int).toNat-0)=B.take i from viewL_take,hco,bd_s,hpa,bd_s]
 have hcomb:∀a b:Bool,br a (some (d,A,B,(B.length:Int),(i:Int),true)) (some (d,A,B,(B.length:Int),(i:Int),!b))=some (d,A,B,(B.length:Int),(i:Int),a|| !b):=by
  intro a b;cases a<;>rfl
 rw[hcomb,bd_s,<-hbad]
 cases badId B A i with
 | true=>simp
 | false=>simp only[br_f];rw[h5,gd_t h4];simp
theorem any_contains (l:List Int) (n:Int):(l.any fun y=>y==n)=l.contains n:=by
 rw[List.contains_eq_any_beq]
 congr 1
 funext y
 rw[Bool.eq_iff_iff]
 simp only[beq_iff_eq]
 exact eq_comm
theorem idsB_bad (a f:List Int):idsB a f=(decide (a.length=f.length)&& !(List.range a.length).any (badId a f)):=by
 unfold idsB
 rw[List.not_any_eq_all_not]
 congr 2
 funext i
 unfold badId
 cases a[i]? with
 | none=>rfl
 | some n=>simp only[any_contains,Bool.not_or,Bool.not_not]
theorem room_link {n:Nat} (h:n<=2097152):roomB K.iLink n:=roomB_of h (by decide)
theorem pS_l02Find_eq {l:List ILink} (hl:l.length<=1000000000) (hf:l.length<F):pS_l02Find F l n=some (fnd l n):=by
 unfold pS_l02Find fnd
 rcases loopF_find (B:=pS_l02Find_b1 F) (fun i=>(n,l,(l.length:Int),(i:Int))) l (fun x=>decide (x.Name=n)) (fun i=> .inr (match l[i]? with|some x=>x.Id|none=>0)) (.inl ()) (fuel:=F) (v:=(n,l,(l.length:Int),0)) rfl (fun i x hx=>by
  obtain⟨h1,h2,h3,h4,h5⟩:=idx_facts hx (by omega)
  unfold pS_l02Find_b1
  simp only[h1,br_t,gd_t h2,h3,bd_s,h5,gd_t h4,hx]
  cases decide (x.Name=n)<;>rfl) (by unfold pS_l02Find_b1;simp) hf with⟨i,x,h1,h2,h3,h4⟩ |⟨h1,h2⟩
 ·rw[h4,find_at h1 h2 h3,h1];rfl
 ·rw[h2,List.find?_eq_none.2 fun x hx=>by rw[h1 x hx];simp];rfl
theorem pS_l02Less_eq {l:List ILink} (hl:l.length<=1048576) (hf:l.length<F):pS_l02Less F l n=some (less n l):=by
 unfold pS_l02Less
 have key:loopF (pS_l02Less_b1 F) F (n,[],l,(l.length:Int),0)=some (less n l):=by
  refine loopF_run (fun i=>(n,less n (l.take i),l,(l.length:Int),(i:Int))) l.length _ rfl (fun i hi=> ?_) (by unfold pS_l02Less_b1;simp) hf
  have hx:l[i]?=some l[i]:=qE1 hi
  obtain⟨h1,h2,h3,h4,h5⟩:=idx_facts hx (by omega)
  have hm:less n (l.take (i+1))=less n (l.take i)++less n [l[i]]:=by unfold less lessN;rw[take_succ_get hx,List.filter_append]
  have hlen:(less n (l.take i)).length<=i:=Nat.le_trans (List.length_filter_le _ _) (by rw[List.length_take];omega)
  generalize l[i]=x at hx h3 hm
  unfold pS_l02Less_b1
  simp only[h1,br_t,gd_t h2,h3,bd_s]
  by_cases hk:x.Name=n
  ·rw[qT1 hk]
   simp only[Bool.not_true,br_f,bd_s]
   rw[h5,gd_t h4,hm]
   simp[less,lessN,hk,lnm]
  ·rw[qF1 hk]
   simp only[Bool.not_false,br_t]
   rw[gd_t (room_link (by simp;omega)),bd_s]
   simp only
   rw[h5,gd_t h4,hm]
   simp[less,lessN,hk,lnm]
 rw[key]
 rfl
theorem less_len (n:ByteArray) (l:List ILink):(less n l).length<=l.length:=List.length_filter_le _ _
theorem ins_len (x:ILink):∀l:List ILink,(ins x l).length=l.length+1
 | []=>rfl
 | y::l=>by
  show(insN lnm x (y::l)).length=_
  unfold insN
  split
  ·rfl
  ·rw[List.length_cons,show(insN lnm x l).length=l.length+1 from ins_len x l];rfl
theorem gt_nlt (a b:ByteArray):(!(Op.bytesLess a.toList b.toList||decide (a=b)))=nlt b a:=by
 cases h1:nlt b a with
 | true=>
  have h2:Op.bytesLess a.toList b.toList=false:=nlt_asymm h1
  have h3:a≠b:=fun e=>by subst e;rw[nlt_irrefl]at h1;cases h1
  rw[h2,qF1 h3];rfl
 | false=>
  cases h2:Op.bytesLess a.toList b.toList with
  | true=>rfl
  | false=>rw[qT1 (nlt_tri h2 h1)];rfl
def insP (x:ILink):List ILink->Bool
 | []=>false
 | y::l=>nlt x.Name y.Name||insP x l
theorem ins_snoc (x y:ILink):∀l:List ILink,insP x l=true->ins x (l++ [y])=ins x l++ [y]/\insP x (l++ [y])=true
 | [],h=>by cases h
 | z::l,h=>by
  show insN lnm x (z::(l++ [y]))=insN lnm x (z::l)++ [y]/\(nlt x.Name z.Name||insP x (l++ [y]))=true
  unfold insP at h
  unfold insN
  by_cases hz:nlt (lnm x) (lnm z)=true
  ·rw[if_pos hz,if_pos hz];exact⟨rfl,by rw[show nlt x.Name z.Name=true from hz];rfl⟩
  ·have hz':nlt x.Name z.Name=false:=by simpa using hz
   rw[hz',Bool.false_or]at h
   obtain⟨e1,e2⟩:=ins_snoc x y l h
   rw[if_neg hz,if_neg hz,hz',e2]
   exact⟨by rw[show insN lnm x (l++ [y])=ins x (l++ [y])from rfl,e1];rfl,rfl⟩
theorem ins_snoc0 (x y:ILink):∀l:List ILink,insP x l=false->ins x l=l++ [x]/\ins x (l++ [y])=(if nlt x.Name y.Name then l++ [x]++ [y]else l++ [y]++ [x])/\insP x (l++ [y])=nlt x.Name y.Name
 | [],_=>by
  refine⟨rfl,?_,?_⟩
  ·show insN lnm x [y]=_
   unfold insN
   show(if nlt x.Name y.Name=true then _ else _)=_
   by_cases h:nlt x.Name y.Name=true
   ·rw[if_pos h,if_pos h];rfl
   ·rw[if_neg h,if_neg h];rfl
  ·show(nlt x.Name y.Name||false)=_
   rw[Bool.or_false]
 | z::l,h=>by
  unfold insP at h
  rw[Bool.or_eq_false_iff]at h
  obtain⟨e0,e1,e2⟩:=ins_snoc0 x y l h.2
  have hz:¬nlt (lnm x) (lnm z)=true:=by rw[show nlt (lnm x) (lnm z)=false from h.1];simp
  refine⟨?_,?_,?_⟩
  ·show insN lnm x (z::l)=_
   unfold insN
   rw[if_neg hz,show insN lnm x l=ins x l from rfl,e0];rfl
  ·show insN lnm x (z::(l++ [y]))=_
   unfold insN
   rw[if_neg hz,show insN lnm x (l++ [y])=ins x (l++ [y])from rfl,e1]
   split<;>rfl
  ·show(nlt x.Name z.Name||insP x (l++ [y]))=_
   rw[h.1,e2];rfl
theorem pS_l02With_eq {l:List ILink} {k:Int} (hl:l.length<=1048576) (hf:l.length<F):pS_l02With F l n k=some (ins ⟨n,k⟩ l):=by
 unfold pS_l02With
 have hp:∀i,(if insP ⟨n,k⟩ (l.take i)=true then ins ⟨n,k⟩ (l.take i)else l.take i).length<=l.length+1:=fun i=>by
  split
  ·rw[ins_len,List.length_take];omega
  ·rw[List.length_take];omega
 have key:loopF (pS_l02With_b1 F) F (n,k,[],false,l,(l.length:Int),0)=some (n,k,(if insP ⟨n,k⟩ l=true then ins ⟨n,k⟩ l else l),insP ⟨n,k⟩ l):=by
  refine loopF_run (fun i=>(n,k,(if insP ⟨n,k⟩ (l.take i)=true then ins ⟨n,k⟩ (l.take i)else l.take i),insP ⟨n,k⟩ (l.take i),l,(l.length:Int),(i:Int))) l.length _ rfl (fun i hi=> ?_) (by unfold pS_l02With_b1;simp) hf
  have hx:l[i]?=some l[i]:=qE1 hi
  obtain⟨h1,h2,h3,h4,h5⟩:=idx_facts hx (by omega)
  have hl0:=hp i
  have hts:=take_succ_get hx
  generalize l[i]=x at hx h3 hts
  unfold pS_l02With_b1
  simp only[h1,br_t,gd_t h2,h3,bd_s,gt_nlt]
  rw[hts]
  cases hq:insP ⟨n,k⟩ (l.take i)with
  | true=>
   obtain⟨e1,e2⟩:=ins_snoc ⟨n,k⟩ x _ hq
   rw[hq]at hl0
   simp only[Bool.not_true,br_f,bd_s,if_true,e1,e2]at hl0⊢
   rw[gd_t (room_link (by rw[List.length_append,List.length_singleton];omega)),h5,gd_t h4]
  | false=>
   obtain⟨e0,e1,e2⟩:=ins_snoc0 ⟨n,k⟩ x _ hq
   rw[hq]at hl0
   simp only[Bool.not_false,br_t,bd_s,Bool.false_eq_true,if_false,e1,e2]at hl0⊢
   cases hb:nlt n x.Name with
   | true=>
    simp only[br_t,if_true]
    rw[gd_t (room_link (by rw[List.length_append,List.length_singleton];omega)),bd_s]
    simp only
    rw[gd_t (room_link (by rw[List.length_append,List.length_append,List.length_singleton,List.length_singleton];omega)),h5,gd_t h4]
   | false=>
    simp only[br_f,bd_s,Bool.false_eq_true,if_false]
    rw[gd_t (room_link (by rw[List.length_append,List.length_singleton];omega)),h5,gd_t h4]
 rw[key,bd_s]
 simp only
 cases hq:insP ⟨n,k⟩ l with
 | true=>simp only[Bool.not_true,br_f,bd_s,if_true]
 | false=>
  simp only[Bool.not_false,br_t,Bool.false_eq_true,if_false]
  rw[gd_t (room_link (by rw[List.length_append,List.length_singleton];omega)),bd_s,(ins_snoc0 ⟨n,k⟩ ⟨n,k⟩ _ hq).1]
theorem pS_l02Turn_eq {l:List ILink} {t:ITurn} (hl:l.length<=1048576) (hf:1048576<F):pS_l02Turn F l t=some (turnS l t):=by
 have h1:=less_len t.Name l
 have h2:=less_len t.To (less t.Name l)
 unfold pS_l02Turn turnS
 by_cases k1:t.Kind=1
 ·rw[show(t.Kind==1)=true by simp[k1],br_t,pS_l02With_eq hl (by omega),if_pos k1];rfl
 ·rw[show(t.Kind==1)=false by simp[k1],br_f,pS_l02Find_eq (by omega) (by omega),bd_s,pS_l02Less_eq hl (by omega),bd_s,if_neg k1]
  by_cases k4:t.Kind=4
  ·rw[show(t.Kind==4)=true by simp[k4],br_t,pS_l02Less_eq (by omega) (by omega),bd_s,pS_l02With_eq (by omega) (by omega),if_pos k4];rfl
  ·rw[show(t.Kind==4)=false by simp[k4],br_f,if_neg k4];rfl
theorem pS_l02TurnOk_eq {l:List ILink} {t:ITurn} (hl:l.length<=1048576) (hf:1048576<F) (h1:t.Name.size<=1048576) (h2:t.To.size<=1048576):pS_l02TurnOk F l t=some (turnOkS nameB l t):=by
 unfold pS_l02TurnOk turnOkS
 rw[pS_l02Find_eq (by omega) (by omega),bd_s,pS_NameOk_eq h1 (by omega),bd_s]
 cases nameB t.Name with
 | false=>rfl
 | true=>
  simp only[Bool.not_true,br_f,Bool.true_and]
  by_cases k1:t.Kind=1
  ·rw[show(t.Kind==1)=true by simp[k1],br_t,if_pos k1]
   cases decide (t.To=e0)<;>cases decide (0<t.Id)<;>rfl
  ·rw[show(t.Kind==1)=false by simp[k1],br_f,if_neg k1]
   by_cases k4:t.Kind=4
   ·rw[show(t.Kind==4)=true by simp[k4],br_t,if_pos k4,pS_NameOk_eq h2 (by omega),bd_s]
    have e:(t.Id==0)=decide (t.Id=0):=rfl
    rw[e,show decide (t.To≠t.Name)= !decide (t.To=t.Name) by by_cases h:t.To=t.Name<;>simp[h]]
    cases nameB t.To<;>cases decide (t.To=t.Name)<;>cases decide (t.Id=0)<;>rfl
   ·rw[show(t.Kind==4)=false by simp[k4],br_f,if_neg k4]
    have e:(t.Id==0)=decide (t.Id=0):=rfl
    rw[e]
    by_cases k5:t.Kind=5
    ·rw[show(t.Kind==5)=true by simp[k5],br_t,if_pos k5]
     cases decide (t.To=e0)<;>cases decide (t.Id=0)<;>rfl
    ·rw[show(t.Kind==5)=false by simp[k5],br_f,if_neg k5]
theorem turnS_len (l:List ILink) (t:ITurn):(turnS l t).length<=l.length+1:=by
 have h1:=less_len t.Name l
 have h2:=less_len t.To (less t.Name l)
 unfold turnS
 split
 ·rw[ins_len];omega
 ·split
  ·rw[ins_len];omega
  ·omega
theorem diskOk_b4 {F:Nat} {T:List ITurn} (hF:20000000<F) (hT:T.length<=500000) (ht:∀t∈T,t.Name.size<=1048576/\t.To.size<=1048576):∀(m fl i:Nat) (l:List ILink),T.length-i=m->i<=T.length->m<fl->l.length+m<=1048576->loopF (pS_DiskOk_b4 F) fl (l,T,(T.length:Int),(i:Int))=some (if turnsS nameB l (T.drop i)then Sum.inl ()else Sum.inr false)
 | m,0,i,l,hm,hi,hf,hl=>by omega
 | 0,fl+1,i,l,hm,hi,hf,hl=>by
  obtain rfl:i=T.length:=by omega
  rw[List.drop_length]
  unfold loopF pS_DiskOk_b4
  simp[turnsS]
 | m+1,fl+1,i,l,hm,hi,hf,hl=>by
  have hi':i<T.length:=by omega
  have hx:T[i]?=some T[i]:=qE1 hi'
  obtain⟨h1,h2,h3,h4,h5⟩:=idx_facts hx (by omega)
  obtain⟨g1,g2⟩:=ht _ (List.getElem_mem hi')
  rw[drop_get hx]
  generalize T[i]=x at hx h3 g1 g2
  have hln:=turnS_len l x
  have ih:=diskOk_b4 hF hT ht m fl (i+1) (turnS l x) (by omega) (by omega) (by omega) (by omega)
  have hB:pS_DiskOk_b4 F (l,T,(T.length:Int),(i:Int))=br (turnOkS nameB l x) (some (.inl (turnS l x,T,(T.length:Int),((i+1:Nat):Int)))) (some (.inr (.inr false))):=by
   unfold pS_DiskOk_b4
   simp only[h1,br_t,gd_t h2,h3,bd_s,pS_l02TurnOk_eq (F:=F) (l:=l) (t:=x) (by omega) (by omega) g1 g2,pS_l02Turn_eq (F:=F) (l:=l) (t:=x) (by omega) (by omega)]
   rw[h5,gd_t h4]
   cases turnOkS nameB l x<;>rfl
  unfold loopF turnsS
  rw[hB]
  cases turnOkS nameB l x with
  | false=>rfl
  | true=>exact ih
def diskB (d:IDisk):Bool:=((decide (0<=d.Room)&&decide (d.Room<=400000))&&((decide (-1<=d.Fuse)&&decide (d.Fuse<=1000))&&(decide (1<=d.Next)&&decide (d.Next<=1000000))))&&((decide ((d.Files.length:Int)<=10)&&(decide ((d.Kept.length:Int)<=10)&&(decide ((d.Turns.length:Int)<=30)&&decide ((usedV d.Files:Int)<=d.Room))))&&(filesB d.Next d.Files&&(keptB nameB d.Kept&&linksS nameB d.Files d.Kept d.Turns)))
theorem pS_DiskOk_eq (h:DkF F d):pS_DiskOk F d=some (diskB d):=by
 have hfu:=h.fu;have hfl:=h.fl;have hkl:=h.kl;have htl:=h.tl
 unfold pS_DiskOk diskB
 rw[pS_used_eq h]
 simp only[lt_not,Bool.not_and,bd_s]
 cases decide (d.Room<0)with
 | true=>rfl
 | false=>
 cases decide (400000<d.Room)with
 | true=>rfl
 | false=>
 cases decide (d.Fuse< -1)with
 | true=>rfl
 | false=>
 cases decide (1000<d.Fuse)with
 | true=>rfl
 | false=>
 cases decide (d.Next<1)with
 | true=>rfl
 | false=>
 cases decide (1000000<d.Next)with
 | true=>rfl
 | false=>
 cases h1:decide (10<(d.Files.length:Int))with
 | true=>rfl
 | false=>
 cases h2:decide (10<(d.Kept.length:Int))with
 | true=>rfl
 | false=>
 cases h3:decide (30<(d.Turns.length:Int))with
 | true=>rfl
 | false=>
 cases decide (d.Room<(usedV d.Files:Int))with
 | true=>rfl
 | false=>
  rw[decide_eq_false_iff_not]at h1 h2 h3
  simp only[br_f,bd_s,Bool.not_false,Bool.true_and]
  rw[diskOk_b1 h]
  unfold filesB keptB linksS
  cases(List.range d.Files.length).any (badFile d.Next d.Files)with
  | true=>rfl
  | false=>
   simp only[Bool.false_eq_true,if_false,jn_l,Bool.not_false,Bool.true_and]
   rw[diskOk_b2 h]
   cases(List.range d.Kept.length).any (badLink nameB d.Kept)with
   | true=>rfl
   | false=>
    simp only[Bool.false_eq_true,if_false,jn_l,Bool.not_false,Bool.true_and]
    have hil:=idsOf_len (kept:=d.Kept) (turns:=d.Turns)
    rw[pS_l02Ids_eq h,bd_s,idsB_bad]
    by_cases hl:(idsOf d.Kept d.Turns).length=(d.Files.map (·.Id)).length
    ·rw[show(((idsOf d.Kept d.Turns).length:Int) !=((d.Files.map (·.Id)).length:Int))=false by rw[hl];simp,br_f,qT1 hl,Bool.true_and,diskOk_b3 h (by rw[List.length_map];omega) (by omega)]
     cases(List.range (idsOf d.Kept d.Turns).length).any (badId (idsOf d.Kept d.Turns) (d.Files.map (·.Id)))with
     | true=>rfl
     | false=>
      simp only[Bool.false_eq_true,if_false,jn_l,Bool.not_false,Bool.true_and]
      have:=diskOk_b4 (F:=F) (T:=d.Turns) hfu (by omega) h.tn d.Turns.length F 0 d.Kept rfl (by omega) (by omega) (by omega)
      rw[List.drop_zero]at this
      rw[show((0:Nat):Int)=0 from rfl]at this
      rw[this]
      cases turnsS nameB d.Kept d.Turns<;>rfl
    ·rw[show(((idsOf d.Kept d.Turns).length:Int) !=((d.Files.map (·.Id)).length:Int))=true by simp at hl⊢;omega,br_t,qF1 hl]
     rfl
theorem clone_link {l:List ILink} (h:l.length<=2097152):pG_slices_Clone_ILink F l=some l:=by
 unfold pG_slices_Clone_ILink
 refine cmpN_eq (by rw[List.nil_append,gd_t (room_link h)]) fun e=>by rw[e]
theorem pI_linkOf_eq {l:List ILink} (hl:l.length<=1000000000) (hf:l.length<F):pI_linkOf F l n=some (atV (fun y=>decide (y.Name=n)) l):=by
 unfold pI_linkOf pG_slices_IndexFunc_ILink_I_linkOf_1 atV
 have h:=loopF_fnd (B:=pG_slices_IndexFunc_ILink_I_linkOf_1_b1 F) (fun i=>(n,l,(l.length:Int),(i:Int))) l (fun y=>decide (y.Name=n)) (fun i=> .inr ((i:Int),n)) (.inl n) (v:=(n,l,(l.length:Int),0)) rfl (fun i x hx=>by
  obtain⟨h1,h2,h3,h4,h5⟩:=idx_facts hx (by omega)
  unfold pG_slices_IndexFunc_ILink_I_linkOf_1_b1 pI_linkOf_1
  simp only[h1,br_t,gd_t h2,h3,bd_s,h5,gd_t h4]
  cases decide (x.Name=n)<;>rfl) (by unfold pG_slices_IndexFunc_ILink_I_linkOf_1_b1;simp) hf
 rw[h]
 cases l.findIdx? _<;>rfl
theorem pI_withoutLink_eq {l:List ILink} (hl:l.length<=1048600) (hf:l.length<F):pI_withoutLink F l n=some (less n l):=by
 unfold pI_withoutLink
 rw[clone_link (by omega),bd_s]
 suffices h:pG_slices_DeleteFunc_ILink_I_withoutLink_1 F l n=some (less n l,n) by rw[h];rfl
 have hless:∀m:List ILink,less n m=m.filter fun r=> !decide (r.Name=n):=fun m=>by
  show m.filter (fun y=>decide (y.Name≠n))=_
  congr 1
  funext y
  by_cases h:y.Name=n<;>simp[h]
 rw[hless]
 unfold pG_slices_DeleteFunc_ILink_I_withoutLink_1 pG_slices_IndexFunc_ILink_I_withoutLink_1
 rcases loopF_find (B:=pG_slices_IndexFunc_ILink_I_withoutLink_1_b1 F) (fun i=>(n,l,(l.length:Int),(i:Int))) l (fun x=>decide (x.Name=n)) (fun i=> .inr ((i:Int),n)) (.inl n) (fuel:=F) (v:=(n,l,(l.length:Int),0)) rfl (fun i x hx=>by
  obtain⟨h1,h2,h3,h4,h5⟩:=idx_facts hx (by omega)
  unfold pG_slices_IndexFunc_ILink_I_withoutLink_1_b1 pI_withoutLink_1
  simp only[h1,br_t,gd_t h2,h3,bd_s,h5,gd_t h4]
  cases decide (x.Name=n)<;>rfl) (by
  unfold pG_slices_IndexFunc_ILink_I_withoutLink_1_b1
  simp) hf with⟨i,x,h1,h2,h3,h4⟩ |⟨h1,h2⟩
 ·have hi:=(qS1.1 h1).1
  rw[h4]
  simp only[jn_r,bd_s]
  rw[show((i:Int)== -1)=false by simp,br_f,gd_t (inK64 (by omega) (by omega))]
  have hfirst:l.take i=(l.take (i+1)).filter fun r=> !decide (r.Name=n):=by
   rw[take_succ_get h1,List.filter_append]
   have e1:(l.take i).filter (fun r=> !decide (r.Name=n))=l.take i:=List.filter_eq_self.2 fun y hy=>by
    obtain⟨j,hj⟩:=List.getElem?_of_mem hy
    have hji:j<i:=by have:=(qS1.1 hj).1;simp at this;omega
    rw[List.getElem?_take,if_pos hji]at hj
    rw[h3 j y hji hj];rfl
   rw[e1,List.filter_cons_of_neg (by rw[h2];simp)]
   simp
  obtain⟨o,p1,p2,p3,p4,p5,p6⟩:=loopF_inv (V:=ByteArray×List ILink×Int×Int) (O:=ByteArray×List ILink×Int) (B:=pG_slices_DeleteFunc_ILink_I_withoutLink_1_b1 F)
   (fun v=>v.1=n/\v.2.1.length=l.length/\0<=v.2.2.1/\v.2.2.1<v.2.2.2/\v.2.2.2<=(l.length:Int)/\v.2.1.take v.2.2.1.toNat=(l.take v.2.2.2.toNat).filter (fun r=> !decide (r.Name=n))/\v.2.1.drop v.2.2.2.toNat=l.drop v.2.2.2.toNat)
   (fun v=>((l.length:Int)-v.2.2.2).toNat) (fun o=>o.1=n/\o.2.1.length=l.length/\0<=o.2.2/\o.2.2<=(l.length:Int)/\o.2.1.take o.2.2.toNat=l.filter (fun r=> !decide (r.Name=n))) (by
    rintro⟨nn,v,k,j⟩ ⟨a0,a1,a2,a3,a4,a5,a6⟩
    simp only at a0 a1 a2 a3 a4 a5 a6⊢
    subst a0
    unfold pG_slices_DeleteFunc_ILink_I_withoutLink_1_b1
    simp only
    by_cases hlt:j<(l.length:Int)
    ·left
     rw[show decide (j<(v.length:Int))=true by simp;omega,br_t,gd_t ⟨by omega,by omega⟩]
     have hjl:l[j.toNat]?=some (l[j.toNat]'(by omega)):=qE1 (by omega)
     have hjv:v[0+j.toNat]?=some (l[j.toNat]'(by omega)):=by
      rw[<-hjl,Nat.zero_add]
      have e1:=List.getElem?_drop (xs:=v) (i:=j.toNat) (j:=0)
      have e2:=List.getElem?_drop (xs:=l) (i:=j.toNat) (j:=0)
      rw[a6]at e1
      rw[Nat.add_zero]at e1 e2
      rw[<-e1,<-e2]
     have hkv:v[0+k.toNat]?=some (v[k.toNat]'(by omega)):=by rw[Nat.zero_add,qE1 (by omega)]
     have hd:v.drop (j+1).toNat=l.drop (j+1).toNat:=by
      have e:(j+1).toNat=j.toNat+1:=by omega
      rw[e,<-List.drop_drop,<-List.drop_drop,a6]
     have ht:l.take (j+1).toNat=l.take j.toNat++ [l[j.toNat]'(by omega)]:=by
      rw[show(j+1).toNat=j.toNat+1 by omega,take_succ_get hjl]
     rw[hjv,bd_s]
     unfold pI_withoutLink_1
     rw[bd_s]
     generalize l[j.toNat]'(by omega)=x9 at *
     cases hx9:decide (x9.Name=nn)with
     | true=>
      simp only[Bool.not_true,br_f,bd_s]
      rw[gd_t (inK64 (by omega) (by omega))]
      refine⟨_,rfl,⟨rfl,a1,a2,by dsimp only;omega,by dsimp only;omega,?_,hd⟩,by dsimp only;omega⟩
      dsimp only
      rw[ht,List.filter_append,<-a5,List.filter_cons_of_neg (by rw[hx9];simp)]
      simp
     | false=>
      simp only[Bool.not_false,br_t]
      rw[gd_t ⟨by omega,by omega⟩,hkv,bd_s,gd_t (inK64 (by omega) (by omega)),bd_s]
      simp only
      rw[gd_t (inK64 (by omega) (by omega))]
      refine⟨_,rfl,⟨rfl,by simp[a1],by dsimp only;omega,by dsimp only;omega,by dsimp only;omega,?_,?_⟩,by dsimp only;omega⟩
      ·dsimp only
       rw[ht,List.filter_append,<-a5,show(k+1).toNat=k.toNat+1 by omega,Nat.zero_add]
       have hset:(v.set k.toNat x9)[k.toNat]?=some x9:=by rw[List.getElem?_set_self (by omega)]
       rw[take_succ_get hset,List.take_set_of_le (Nat.le_refl _),List.filter_cons_of_pos (by rw[hx9];rfl)]
       rfl
      ·dsimp only
       rw[Nat.zero_add,List.drop_set_of_lt (by omega)]
       exact hd
    ·right
     rw[show decide (j<(v.length:Int))=false by simp;omega,br_f]
     refine⟨_,rfl,rfl,a1,a2,by dsimp only;omega,?_⟩
     dsimp only
     rw[a5,List.take_of_length_le (by omega)]) F (n,l,(i:Int),(i:Int)+1) ⟨rfl,rfl,by dsimp only;omega,by dsimp only;omega,by dsimp only;omega,by
      dsimp only
      rw[show((i:Int)+1).toNat=i+1 by omega,show(i:Int).toNat=i by omega]
      exact hfirst,rfl⟩ (by dsimp only;omega)
  rw[p1,bd_s]
  obtain⟨nn,v,k⟩:=o
  simp only at p2 p3 p4 p5 p6⊢
  rw[gd_t ⟨by omega,by omega⟩,gd_t ⟨by omega,by omega⟩,p2]
  congr 2
  rw[<-p6,Nat.sub_zero,List.drop_zero,Nat.zero_add]
  unfold putL
  rw[List.append_assoc,List.take_append_of_le_length (by rw[List.length_take];omega),List.take_take,Nat.min_self]
 ·rw[h2]
  simp only[jn_l,bd_s]
  rw[show((-1:Int)== -1)=true by rfl,br_t]
  congr 2
  exact(List.filter_eq_self.2 fun y hy=>by rw[h1 y hy];rfl).symm
theorem cmp_lt:∀a b:List UInt8,decide (Lib.compareBytes a b<0)=Op.bytesLess a b
 | [],[]=>rfl
 | [],_::_=>rfl
 | _::_,[]=>rfl
 | a::l,b::m=>by
  unfold Lib.compareBytes Op.bytesLess
  by_cases h1:a<b
  ·rw[if_pos h1,qT1 h1];rfl
  ·rw[if_neg h1,qF1 h1,Bool.false_or]
   by_cases h2:b<a
   ·rw[if_pos h2,beq_eq_false_iff_ne.2 (fun e=>by subst e;exact h1 h2)];rfl
   ·rw[if_neg h2,show(a==b)=true from beq_iff_eq.2 (UInt8.le_antisymm (UInt8.not_lt.1 h2) (UInt8.not_lt.1 h1)),Bool.true_and]
    exact cmp_lt l m
theorem withLink_1 (F:Nat) (a b:ILink):∃n:Int,pI_withLink_1 F a b=some n/\decide (n<0)=nlt a.Name b.Name:=by
 refine⟨Lib.compareBytes a.Name.data.toList b.Name.data.toList,rfl,?_⟩
 unfold nlt
 rw[cmp_lt,Lib.toList_data,Lib.toList_data]
theorem half {i j:Int} (h0:0<=i) (h1:i<j) (h2:j<=1048600):(IntKind.u64.wrap (i+j)).fdiv (2 ^ min (Int.toNat 1) IntKind.u64.bits)=(i+j) / 2:=by
 rw[show IntKind.u64.wrap (i+j)=i+j from(wrap_iff .u64 _).2 ⟨by show 0<=_;omega,by show _<=18446744073709551615;omega⟩]
 show(i+j).fdiv 2=_
 rw[Int.fdiv_eq_ediv_of_nonneg _ (by omega)]
theorem search_eq {l:List ILink} {x:ILink} (hl:l.length<=1048600) (hf:1048600<F) (hs:srtd lnm l):∃b,pG_slices_BinarySearchFunc_ILink_I_withLink_1 F l x=some ((cntN lnm x.Name l:Int),b):=by
 unfold pG_slices_BinarySearchFunc_ILink_I_withLink_1
 have hc:cntN lnm x.Name l<=l.length:=List.countP_le_length
 obtain⟨o,p1,p2,p3,p4,p5⟩:=loopF_inv (V:=ILink×List ILink×Int×Int×Int) (O:=ILink×List ILink×Int×Int) (B:=pG_slices_BinarySearchFunc_ILink_I_withLink_1_b1 F)
  (fun v=>v.1=x/\v.2.1=l/\v.2.2.1=(l.length:Int)/\0<=v.2.2.2.1/\v.2.2.2.1<=(cntN lnm x.Name l:Int)/\(cntN lnm x.Name l:Int)<=v.2.2.2.2/\v.2.2.2.2<=(l.length:Int))
  (fun v=>(v.2.2.2.2-v.2.2.2.1).toNat) (fun o=>o.1=x/\o.2.1=l/\o.2.2.1=(l.length:Int)/\o.2.2.2=(cntN lnm x.Name l:Int)) (by
   rintro⟨y,m,n,i,j⟩ ⟨a1,a2,a3,a4,a5,a6,a7⟩
   simp only at a1 a2 a3 a4 a5 a6 a7⊢
   subst a1 a2 a3
   unfold pG_slices_BinarySearchFunc_ILink_I_withLink_1_b1
   simp only
   by_cases hlt:i<j
   ·left
    rw[qT1 hlt,br_t,half a4 hlt (by omega),gd_t (inK64 (by omega) (by omega)),gd_t (by decide),gd_t (inK64 (by omega) (by omega)),gd_t ⟨by omega,by omega⟩]
    have hk:((i+j) / 2).toNat<m.length:=by omega
    have hx:=qE1 hk
    have hcl:=cntN_lt lnm (n:=y.Name) hs hx
    rw[hx,bd_s]
    obtain⟨r,e1,e2⟩:=withLink_1 F m[((i+j) / 2).toNat] y
    rw[e1,bd_s,e2]
    cases hb:nlt (m[((i+j) / 2).toNat]).Name y.Name with
    | true=>
     have:=hcl.1 hb
     rw[br_t,gd_t (inK64 (by omega) (by omega))]
     exact⟨_,rfl,⟨rfl,rfl,rfl,by dsimp only;omega,by dsimp only;omega,a6,a7⟩,by dsimp only;omega⟩
    | false=>
     have:¬((i+j) / 2).toNat<cntN lnm y.Name m:=fun h=>by
      have h2:=hcl.2 h
      rw[show nlt (lnm m[((i+j) / 2).toNat]) y.Name=false from hb]at h2
      cases h2
     rw[br_f]
     exact⟨_,rfl,⟨rfl,rfl,rfl,a4,a5,by dsimp only;omega,by dsimp only;omega⟩,by dsimp only;omega⟩
   ·right
    rw[qF1 hlt,br_f]
    exact⟨_,rfl,rfl,rfl,rfl,by dsimp only;omega⟩) F (x,l,(l.length:Int),0,(l.length:Int)) ⟨rfl,rfl,rfl,by dsimp only;omega,by dsimp only;omega,by dsimp only;omega,by dsimp only;omega⟩ (by dsimp only;omega)
 rw[p1,bd_s]
 obtain⟨y,m,n,i⟩:=o
 simp only at p2 p3 p4 p5⊢
 subst p2 p3 p4 p5
 by_cases hlt:(cntN lnm y.Name m:Int)<(m.length:Int)
 ·rw[qT1 hlt,br_t,gd_t ⟨by omega,hlt⟩,Int.toNat_natCast,qE1 (by omega),bd_s]
  obtain⟨r,e1,_⟩:=withLink_1 F (m[cntN lnm y.Name m]'(by omega)) y
  rw[e1]
  exact⟨_,rfl⟩
 ·rw[qF1 hlt]
  exact⟨_,rfl⟩
theorem pI_withLink_eq {l:List ILink} {x:ILink} (hl:l.length<=1048600) (hf:1048600<F) (hs:srtd lnm l) (hn:∀y∈l,y.Name≠x.Name):pI_withLink F l x=some (ins x l):=by
 obtain⟨b,e⟩:=search_eq (x:=x) hl hf hs
 have hc:cntN lnm x.Name l<=l.length:=List.countP_le_length
 unfold pI_withLink
 rw[e,bd_s]
 simp only
 rw[clone_link (by omega),bd_s]
 unfold pG_slices_Insert_ILink
 rw[gd_t ⟨by omega,by omega,by simp,by simp;omega⟩,bd_s,Int.toNat_natCast]
 rw[show ins x l=insN lnm x l from rfl,insN_eq lnm hs hn]
 simp
theorem atV_find {l:List ILink}:(match l.findIdx? fun y=>decide (y.Name=n)with|some i=>l[i]? | none=>none)=l.find? fun y=>decide (y.Name=n):=by
 cases h:l.findIdx? fun y=>decide (y.Name=n)with
 | none=>exact(List.find?_eq_none.2 fun x hx=>by rw[List.findIdx?_eq_none_iff.1 h x hx];simp).symm
 | some i=>
  obtain⟨hi,h2,h3⟩:=List.findIdx?_eq_some_iff_getElem.1 h
  rw[find_at (qE1 hi) h2 fun j y hj hy=>by
   obtain⟨hj',e⟩:=qS1.1 hy
   have:=h3 j hj
   rw[e]at this
   simpa using this]
  exact qE1 hi
theorem pI_applied_eq {l:List ILink} {t:ITurn} (hl:l.length<=1048500) (hf:1048600<F) (hs:srtd lnm l):pI_applied F l t=some (match appl l t with|some d=>(d,true)|none=>([],false)):=by
 have hfind:=atV_find (l:=l) (n:=t.Name)
 have h1:=less_len t.Name l
 have h2:=less_len t.To (less t.Name l)
 unfold pI_applied appl
 rw[pI_linkOf_eq (by omega) (by omega),bd_s]
 cases hk:l.findIdx? fun y=>decide (y.Name=t.Name)with
 | none=>
  rw[hk]at hfind
  rw[atV_none hk,<-hfind]
  by_cases k1:t.Kind=1
  ·rw[show(t.Kind==1)=true by simp[k1],br_t,pI_withLink_eq (by omega) (by omega) hs (not_found hfind.symm),if_pos k1];rfl
  ·rw[show(t.Kind==1)=false by simp[k1],br_f,if_neg k1];rfl
 | some i=>
  obtain⟨x,hx,_⟩:=findIdx_get hk
  rw[hk]at hfind
  have hfind:l[i]?=_:=hfind
  have hi:=(qS1.1 hx).1
  rw[atV_some hk,<-hfind,hx]
  by_cases k1:t.Kind=1
  ·rw[show(t.Kind==1)=true by simp[k1],br_t,qT1 (show(0:Int)<=(i:Int) by omega),if_pos k1];rfl
  ·rw[show(t.Kind==1)=false by simp[k1],br_f,qF1 (show¬(i:Int)<0 by omega),if_neg k1]
   by_cases k4:t.Kind=4
   ·have k4b:(t.Kind==4)=true:=by simp[k4]
    by_cases ke:t.To=t.Name
    ·simp only[k4b,qT1 ke,br_t,br_f,bd_s]
     rw[if_pos ⟨k4,ke⟩]
    ·have hw:=pI_withLink_eq (F:=F) (l:=less t.To (less t.Name l)) (x:=⟨t.To,x.Id⟩) (by omega) (by omega) (lessN_srtd lnm (lessN_srtd lnm hs)) fun y hy=>((mem_lessN lnm).1 hy).2
     simp only[k4b,qF1 ke,br_t,br_f,bd_s]
     rw[gd_t ⟨by omega,by omega⟩,Int.toNat_natCast,hx,bd_s,pI_withoutLink_eq (by omega) (by omega),bd_s,pI_withoutLink_eq (by omega) (by omega),bd_s,hw,if_neg (fun h=>ke h.2),if_pos k4]
     rfl
   ·have k4b:(t.Kind==4)=false:=by simp[k4]
    simp only[k4b,br_f,bd_s]
    rw[gd_t ⟨by omega,by omega⟩,Int.toNat_natCast,hx,bd_s,pI_withoutLink_eq (by omega) (by omega),bd_s,if_neg (fun h=>k4 h.1),if_neg k4]
theorem appl_srtd {l d:List ILink} {t:ITurn} (hs:srtd lnm l) (h:appl l t=some d):srtd lnm d/\d.length<=l.length+1:=by
 have h1:=less_len t.Name l
 have h2:=less_len t.To (less t.Name l)
 unfold appl at h
 dsimp only at h
 cases hk:l.find? fun l=>decide (l.Name=t.Name)with
 | none=>
  rw[hk]at h
  split at h
  ·cases h
   exact⟨insN_srtd lnm hs (not_found hk),by rw[ins_len];omega⟩
  ·cases h
 | some x=>
  rw[hk]at h
  split at h
  ·cases h
  ·dsimp only at h
   split at h
   ·cases h
   ·split at h
    ·cases h
     exact⟨insN_srtd lnm (lessN_srtd lnm (lessN_srtd lnm hs)) fun y hy=>((mem_lessN lnm).1 hy).2,by rw[ins_len];omega⟩
    ·cases h
     exact⟨lessN_srtd lnm hs,by omega⟩
theorem pI_isTurn_eq {t:ITurn} (hf:1048576<F) (h1:t.Name.size<=1048576) (h2:t.To.size<=1048576):pI_isTurn F t=some (isTurnB nameB t):=by
 unfold pI_isTurn isTurnB
 rw[pI_NameOk_eq h1 (by omega),pI_NameOk_eq h2 (by omega)]
 have e:(t.Id==0)=decide (t.Id=0):=rfl
 rw[e]
 by_cases k1:t.Kind=1
 ·rw[show(t.Kind==1)=true by simp[k1],br_t,if_pos k1]
  cases nameB t.Name<;>rfl
 ·rw[show(t.Kind==1)=false by simp[k1],br_f,if_neg k1]
  by_cases k4:t.Kind=4
  ·rw[show(t.Kind==4)=true by simp[k4],br_t,if_pos k4]
   cases nameB t.Name<;>cases nameB t.To<;>rfl
  ·rw[show(t.Kind==4)=false by simp[k4],br_f,if_neg k4]
   by_cases k5:t.Kind=5
   ·rw[show(t.Kind==5)=true by simp[k5],br_t,if_pos k5]
    cases nameB t.Name<;>cases decide (t.To=e0)<;>rfl
   ·rw[show(t.Kind==5)=false by simp[k5],br_f,if_neg k5]
theorem linksOk_b1 (h:DkF F d):loopF (pI_Disk_linksOk_b1 F) F (d,[],d.Kept,(d.Kept.length:Int),0)=some (if(List.range d.Kept.length).any (badLink nameB d.Kept)then Sum.inr false else Sum.inl (d,d.Kept.map (·.Id))):=by
 have hfu:=h.fu;have hkl:=h.kl
 refine loopF_scan (B:=pI_Disk_linksOk_b1 F) (fuel:=F) (fun i=>(d,(d.Kept.take i).map (·.Id),d.Kept,(d.Kept.length:Int),(i:Int))) d.Kept.length (badLink nameB d.Kept) (Sum.inr false) (Sum.inl (d,d.Kept.map (·.Id))) rfl (fun i hi=> ?_) (by unfold pI_Disk_linksOk_b1;simp) (by omega)
 rw[<-br_if]
 have hx:d.Kept[i]?=some d.Kept[i]:=qE1 hi
 obtain⟨h1,h2,h3,h4,h5⟩:=idx_facts hx (by omega)
 have hn:=pI_NameOk_eq (fuel:=F) (h.kn _ (List.getElem_mem hi)) (by have:=h.kn _ (List.getElem_mem hi);omega)
 have hm:=map_succ (fun f:ILink=>f.Id) hx
 have hr:roomB K.int ((d.Kept.take (i+1)).map (·.Id)).length:=roomB_of (by rw[List.length_map,List.length_take];omega) (by decide)
 unfold pI_Disk_linksOk_b1
 simp only[h1,br_t,gd_t h2,h3,bd_s,hn]
 unfold badLink
 rw[hx]
 generalize d.Kept[i]=x at hx h3 hn hm
 have hfin:∀c:Bool,(br c (some (.inr (.inr false))) (gd (roomB K.int ((d.Kept.take i).map (·.Id)++ [x.Id]).length) (gd (inK IntKind.i64 ((i:Int)+1)) (some (.inl (d,(d.Kept.take i).map (·.Id)++ [x.Id],d.Kept,(d.Kept.length:Int),(i:Int)+1))))):Option ((IDisk×List Int×List ILink×Int×Int)⊕(IDisk×List Int⊕Bool)))=br c (some (.inr (.inr false))) (some (.inl (d,(d.Kept.take (i+1)).map (·.Id),d.Kept,(d.Kept.length:Int),((i+1:Nat):Int)))):=by
  intro c
  rw[hm,gd_t hr,h5,gd_t h4]
 cases i with
 | zero=>
  simp only[show decide ((0:Int)<((0:Nat):Int))=false from rfl,br_f]
  cases nameB x.Name<;>first|exact hfin true|exact hfin false
 | succ i=>
  have hi0:i<d.Kept.length:=by omega
  have hg:d.Kept[i]?=some d.Kept[i]:=qE1 hi0
  simp only[qT1 (show(0:Int)<((i+1:Nat):Int) by omega),br_t]
  rw[gd_i64 (by omega) (by omega),gd_ix (by omega) (by omega),show(((i+1:Nat):Int)-1).toNat=i by omega,hg]
  generalize d.Kept[i]=g
  simp only[bd_s]
  unfold nlt
  cases nameB x.Name<;>cases Op.bytesLess g.Name.toList x.Name.toList<;>first|exact hfin true|exact hfin false
def idsT (T:List ITurn):List Int:=(T.filter fun t=>decide (t.Kind=1)).map (·.Id)
theorem linksOk_b2 {F:Nat} {d:IDisk} {T:List ITurn} (hF:20000000<F) (hT:T.length<=500000) (ht:∀t∈T,t.Name.size<=1048576/\t.To.size<=1048576):∀(m fl i:Nat) (A:List Int) (l:List ILink),T.length-i=m->i<=T.length->m<fl->l.length+m<=1048500->A.length+m<=2000000->srtd lnm l->
  loopF (pI_Disk_linksOk_b2 F) fl (d,A,l,T,(T.length:Int),(i:Int))=some (if turnsI nameB l (T.drop i)then Sum.inl (d,A++idsT (T.drop i))else Sum.inr false)
 | m,0,i,A,l,hm,hi,hf,hl,hA,hs=>by omega
 | 0,fl+1,i,A,l,hm,hi,hf,hl,hA,hs=>by
  obtain rfl:i=T.length:=by omega
  rw[List.drop_length]
  unfold loopF pI_Disk_linksOk_b2
  simp[turnsI,idsT]
 | m+1,fl+1,i,A,l,hm,hi,hf,hl,hA,hs=>by
  have hi':i<T.length:=by omega
  have hx:T[i]?=some T[i]:=qE1 hi'
  obtain⟨h1,h2,h3,h4,h5⟩:=idx_facts hx (by omega)
  obtain⟨g1,g2⟩:=ht _ (List.getElem_mem hi')
  rw[drop_get hx]
  generalize T[i]=x at hx h3 g1 g2
  have hB:pI_Disk_linksOk_b2 F (d,A,l,T,(T.length:Int),(i:Int))=br (isTurnB nameB x) (match appl l x with|some d'=>some (.inl (d,A++idsT [x],d',T,(T.length:Int),((i+1:Nat):Int)))|none=>some (.inr (.inr false))) (some (.inr (.inr false))):=by
   unfold pI_Disk_linksOk_b2
   simp only[h1,br_t,gd_t h2,h3,bd_s,pI_isTurn_eq (F:=F) (t:=x) (by omega) g1 g2,pI_applied_eq (F:=F) (l:=l) (t:=x) (by omega) (by omega) hs]
   cases isTurnB nameB x with
   | false=>rfl
   | true=>
    simp only[Bool.not_true,br_f,br_t]
    cases appl l x with
    | none=>rfl
    | some d'=>
     simp only[Bool.not_true,br_f]
     unfold idsT
     by_cases k1:x.Kind=1
     ·rw[show(x.Kind==1)=true by simp[k1],br_t,gd_t (roomB_of (by simp;omega) (by decide)),jn_l]
      simp only
      rw[h5,gd_t h4]
      simp[k1]
     ·rw[show(x.Kind==1)=false by simp[k1],br_f,jn_l]
      simp only
      rw[h5,gd_t h4]
      simp[k1]
  have hids:idsT (x::T.drop (i+1))=idsT [x]++idsT (T.drop (i+1)):=by
   unfold idsT
   rw[<-List.map_append,<-List.filter_append]
   rfl
  have hlx:(idsT [x]).length<=1:=by
   unfold idsT
   rw[List.length_map]
   exact List.length_filter_le _ _
  unfold loopF turnsI
  rw[hB]
  cases isTurnB nameB x with
  | false=>rfl
  | true=>
   rw[Bool.true_and]
   cases ha:appl l x with
   | none=>rfl
   | some d'=>
    obtain⟨s1,s2⟩:=appl_srtd hs ha
    have ih:=linksOk_b2 (d:=d) hF hT ht m fl (i+1) (A++idsT [x]) d' (by omega) (by omega) (by omega) (by omega) (by rw[List.length_append];omega) s1
    rw[hids,<-List.append_assoc]
    exact ih
theorem equalFunc_eq {fs:List IFile} (ha:a.length<=1000000000) (hf:a.length<F):pG_slices_EqualFunc_IFile_I_Disk_linksOk_1 F a fs=some (decide (a=fs.map (·.Id))):=by
 unfold pG_slices_EqualFunc_IFile_I_Disk_linksOk_1
 by_cases hl:a.length=fs.length
 ·rw[show((a.length:Int) !=(fs.length:Int))=false by simp;omega,br_f]
  have key:loopF (pG_slices_EqualFunc_IFile_I_Disk_linksOk_1_b1 F) F (fs,a,(a.length:Int),0)=some (if(List.range a.length).any (fun i=>a[i]? !=(fs.map (·.Id))[i]?)then Sum.inr false else Sum.inl ()):=by
   refine loopF_scan (fun i=>(fs,a,(a.length:Int),(i:Int))) a.length (fun i=>a[i]? !=(fs.map (·.Id))[i]?) (Sum.inr false) (Sum.inl ()) rfl (fun i hi=> ?_) (by unfold pG_slices_EqualFunc_IFile_I_Disk_linksOk_1_b1;simp) hf
   obtain⟨h1,h2,h3,h4,h5⟩:=idx_facts (qE1 hi) (by omega)
   obtain⟨_,g2,g3,_,_⟩:=idx_facts (qE1 (l:=fs) (i:=i) (by omega)) (by omega)
   unfold pG_slices_EqualFunc_IFile_I_Disk_linksOk_1_b1 pI_Disk_linksOk_1
   simp only[h1,br_t,gd_t h2,h3,bd_s,gd_t g2,g3,h5,gd_t h4]
   rw[qE1 hi,List.getElem?_map,qE1 (show i<fs.length by omega),Option.map_some]
   have:(!(a[i]==(fs[i]'(by omega)).Id))=(some a[i] !=some (fs[i]'(by omega)).Id):=by
    rw[Bool.eq_iff_iff];simp
   rw[this]
   cases(some a[i] !=some (fs[i]'(by omega)).Id)<;>simp
  rw[key]
  cases h:(List.range a.length).any (fun i=>a[i]? !=(fs.map (·.Id))[i]?)with
  | true=>
   obtain⟨i,_,hi⟩:=List.any_eq_true.1 h
   rw[qF1 fun e=>by rw[e]at hi;simp at hi]
   rfl
  | false=>
   rw[qT1 (List.ext_getElem? fun i=> ?_)]
   ·rfl
   ·by_cases hi:i<a.length
    ·have:=List.any_eq_false.1 h i (List.mem_range.2 hi)
     simpa using this
    ·rw[List.getElem?_eq_none (by omega),List.getElem?_eq_none (by rw[List.length_map];omega)]
 ·rw[show((a.length:Int) !=(fs.length:Int))=true by simp;omega,br_t,qF1 fun e=>hl (by rw[e,List.length_map])]
theorem pI_linksOk_eq (h:DkF F d):pI_Disk_linksOk F d=some ((decide ((d.Turns.length:Int)<=30)&&decide ((d.Kept.length:Int)<=10))&&(keptB nameB d.Kept&&linksI nameB d.Files d.Kept d.Turns)):=by
 have hfu:=h.fu;have hkl:=h.kl;have htl:=h.tl
 unfold pI_Disk_linksOk
 simp only[lt_not]
 cases h3:decide (30<(d.Turns.length:Int))with
 | true=>rfl
 | false=>
 cases h2:decide (10<(d.Kept.length:Int))with
 | true=>rfl
 | false=>
  rw[decide_eq_false_iff_not]at h2 h3
  simp only[br_f,bd_s,Bool.not_false,Bool.true_and]
  rw[linksOk_b1 h]
  unfold linksI
  cases hk:keptB nameB d.Kept with
  | false=>
   have hk':(List.range d.Kept.length).any (badLink nameB d.Kept)=true:=by unfold keptB at hk;simpa using hk
   rw[hk']
   rfl
  | true=>
   have hk':(List.range d.Kept.length).any (badLink nameB d.Kept)=false:=by unfold keptB at hk;simpa using hk
   rw[hk']
   simp only[Bool.false_eq_true,if_false,jn_l,Bool.true_and]
   have:=linksOk_b2 (F:=F) (d:=d) (T:=d.Turns) hfu (by omega) h.tn d.Turns.length F 0 (d.Kept.map (·.Id)) d.Kept rfl (by omega) (by omega) (by omega) (by rw[List.length_map];omega) (keptB_ok hk)
   rw[List.drop_zero]at this
   rw[show((0:Nat):Int)=0 from rfl]at this
   rw[this]
   have hil:=idsOf_len (kept:=d.Kept) (turns:=d.Turns)
   cases turnsI nameB d.Kept d.Turns with
   | false=>rfl
   | true=>
    simp only[if_true,jn_l,Bool.true_and]
    rw[show d.Kept.map (·.Id)++idsT d.Turns=idsOf d.Kept d.Turns from rfl,sort_ok (by omega),bd_s,equalFunc_eq (by rw[List.length_mergeSort];omega) (by rw[List.length_mergeSort];omega),bd_s]
theorem pI_DiskOk_eq (h:DkF F d):pI_DiskOk F d=some (diskB d):=by
 unfold pI_DiskOk diskB
 simp only[pI_within_eq,bd_s,pI_linksOk_eq h]
 cases decide (0<=d.Room)&&decide (d.Room<=400000)with
 | false=>rfl
 | true=>
 cases decide (-1<=d.Fuse)&&decide (d.Fuse<=1000)with
 | false=>rfl
 | true=>
 cases hn:decide (1<=d.Next)&&decide (d.Next<=1000000)with
 | false=>rfl
 | true=>
  rw[pI_filesOk_eq h (by simpa using hn)]
  simp only[br_t,bd_s,Bool.true_and]
  rw[<-disk_same]
  cases decide ((d.Files.length:Int)<=10)<;>cases decide ((d.Kept.length:Int)<=10)<;>cases decide ((d.Turns.length:Int)<=30)<;>cases decide ((usedV d.Files:Int)<=d.Room)<;>cases filesB d.Next d.Files<;>cases keptB nameB d.Kept<;>cases linksI nameB d.Files d.Kept d.Turns<;>rfl
theorem dirOf_go {F:Nat} {T:List ITurn} (hF:20000000<F) (hT:T.length<=500000):∀(m fl i:Nat) (l:List ILink),T.length-i=m->i<=T.length->m<fl->l.length+m<=1048500->DirOk l->(∀t∈T.drop i,t.Kind=1->0<t.Id)->turnsS nameB l (T.drop i)=true->
  loopF (pI_dirOf_b1 F) fl (l,T,(T.length:Int),(i:Int))=some (dirV l (T.drop i))
 | m,0,i,l,hm,hi,hf,hl,hd,ht,hs=>by omega
 | 0,fl+1,i,l,hm,hi,hf,hl,hd,ht,hs=>by
  obtain rfl:i=T.length:=by omega
  rw[List.drop_length]
  unfold loopF pI_dirOf_b1
  simp[dirV]
 | m+1,fl+1,i,l,hm,hi,hf,hl,hd,ht,hs=>by
  have hi':i<T.length:=by omega
  have hx:T[i]?=some T[i]:=qE1 hi'
  obtain⟨h1,h2,h3,h4,h5⟩:=idx_facts hx (by omega)
  rw[drop_get hx]at ht hs⊢
  generalize T[i]=x at hx h3 ht hs
  unfold turnsS at hs
  rw[Bool.and_eq_true]at hs
  obtain⟨e1,e2⟩:=(turn_same (nameB:=nameB) hd (ht x List.mem_cons_self)).2 hs.1
  have hB:pI_dirOf_b1 F (l,T,(T.length:Int),(i:Int))=some (.inl (turnS l x,T,(T.length:Int),((i+1:Nat):Int))):=by
   unfold pI_dirOf_b1
   simp only[h1,br_t,gd_t h2,h3,bd_s,pI_applied_eq (F:=F) (l:=l) (t:=x) (by omega) (by omega) hd.s,e1]
   rw[h5,gd_t h4]
  have hln:=turnS_len l x
  unfold loopF
  rw[hB]
  exact dirOf_go hF hT m fl (i+1) (turnS l x) (by omega) (by omega) (by omega) (by omega) e2 (fun t h=>ht t (List.mem_cons_of_mem _ h)) hs.2
theorem l02Dir_go {F:Nat} {d:IDisk} (hF:20000000<F) (hT:d.Turns.length<=500000):∀(m fl i:Nat) (l:List ILink),d.Turns.length-i=m->i<=d.Turns.length->m<fl->l.length+m<=1048500->
  loopF (pS_l02Dir_b1 F) fl (d,(d.Turns.length:Int),l,(i:Int))=some (dirV l (d.Turns.drop i))
 | m,0,i,l,hm,hi,hf,hl=>by omega
 | 0,fl+1,i,l,hm,hi,hf,hl=>by
  obtain rfl:i=d.Turns.length:=by omega
  rw[List.drop_length]
  unfold loopF pS_l02Dir_b1
  simp[dirV]
 | m+1,fl+1,i,l,hm,hi,hf,hl=>by
  have hi':i<d.Turns.length:=by omega
  have hx:d.Turns[i]?=some d.Turns[i]:=qE1 hi'
  obtain⟨h1,h2,h3,h4,h5⟩:=idx_facts hx (by omega)
  rw[drop_get hx]
  generalize d.Turns[i]=x at hx h3
  have hB:pS_l02Dir_b1 F (d,(d.Turns.length:Int),l,(i:Int))=some (.inl (d,(d.Turns.length:Int),turnS l x,((i+1:Nat):Int))):=by
   unfold pS_l02Dir_b1
   simp only[h1,br_t,gd_t h2,h3,bd_s,pS_l02Turn_eq (F:=F) (l:=l) (t:=x) (by omega) (by omega)]
   rw[h5,gd_t h4]
  have hln:=turnS_len l x
  unfold loopF
  rw[hB]
  exact l02Dir_go hF hT m fl (i+1) (turnS l x) (by omega) (by omega) (by omega) (by omega)
structure DkOk (d:IDisk):Prop where
 l:LinksOk nameB d.Kept d.Turns (d.Files.map (·.Id))
 f:(d.Files.map (·.Id)).Pairwise (· < ·)
 nf:d.Files.length<=10
 nk:d.Kept.length<=10
 nt:d.Turns.length<=30
 ok:diskB d=true
theorem dkOk_of (h:diskB d=true):DkOk d:=by
 have h0:=h
 unfold diskB at h0
 rw[Bool.and_eq_true]at h0
 obtain⟨_,h0⟩:=h0
 rw[Bool.and_eq_true]at h0
 obtain⟨h1,h2⟩:=h0
 simp only[Bool.and_eq_true,decide_eq_true_eq]at h1
 obtain⟨h3,h4⟩:=disk_links h2
 exact⟨h3,h4,by omega,by omega,by omega,h⟩
def dirD (d:IDisk):List ILink:=dirV d.Kept d.Turns
theorem dirV_len:∀(l:List ILink) (T:List ITurn),(dirV l T).length<=l.length+T.length
 | l,[]=>by simp[dirV]
 | l,t::T=>by
  have h1:=turnS_len l t
  have h2:=dirV_len (turnS l t) T
  show(dirV (turnS l t) T).length<=_
  rw[List.length_cons]
  omega
theorem dirOf_eq (hF:20000000<F) (h:DkOk d):pI_dirOf F d.Kept d.Turns=some (dirD d):=by
 have:=h.nk;have:=h.nt
 unfold pI_dirOf
 rw[clone_link (by omega),bd_s]
 have e:=dirOf_go (F:=F) (T:=d.Turns) hF (by omega) d.Turns.length F 0 d.Kept rfl (by omega) (by omega) (by omega) h.l.d (by rw[List.drop_zero];exact h.l.t) (by rw[List.drop_zero];exact h.l.s)
 rw[List.drop_zero,show((0:Nat):Int)=0 from rfl]at e
 rw[e]
 rfl
theorem pS_l02Dir_eq (hF:20000000<F) (h:DkOk d):pS_l02Dir F d (d.Turns.length:Int)=some (dirD d):=by
 have:=h.nk;have:=h.nt
 unfold pS_l02Dir
 rw[List.nil_append,gd_t (room_link (by omega))]
 have e:=l02Dir_go (F:=F) (d:=d) hF (by omega) d.Turns.length F 0 d.Kept rfl (by omega) (by omega) (by omega)
 rw[List.drop_zero,show((0:Nat):Int)=0 from rfl]at e
 rw[e]
 rfl
def fileAt (d:IDisk) (n:ByteArray):Int:=match(dirD d).find? fun l=>decide (l.Name=n)with
 | none=> -1
 | some x=>atV (fun f=>f.Id==x.Id) d.Files
theorem pI_file_eq (hF:20000000<F) (h:DkOk d):pI_Disk_file F d n=some (fileAt d n):=by
 have:=h.nk;have:=h.nt;have:=h.nf
 have hl:(dirD d).length<=40:=by have:=dirV_len d.Kept d.Turns;unfold dirD;omega
 have hfind:=atV_find (l:=dirD d) (n:=n)
 unfold pI_Disk_file pI_Disk_dir fileAt
 rw[dirOf_eq hF h,bd_s,bd_s,pI_linkOf_eq (by omega) (by omega),bd_s]
 cases hk:(dirD d).findIdx? fun y=>decide (y.Name=n)with
 | none=>
  rw[hk]at hfind
  rw[atV_none hk,<-hfind]
  rfl
 | some i=>
  obtain⟨x,hx,_⟩:=findIdx_get hk
  rw[hk]at hfind
  have hfind:(dirD d)[i]?=_:=hfind
  have hi:=(qS1.1 hx).1
  rw[atV_some hk,<-hfind,hx,qF1 (show¬(i:Int)<0 by omega),br_f]
  unfold pG_slices_IndexFunc_IFile_I_Disk_file_1 atV
  have hlp:=loopF_fnd (B:=pG_slices_IndexFunc_IFile_I_Disk_file_1_b1 F) (fun j=>(dirD d,(i:Int),d.Files,(d.Files.length:Int),(j:Int))) d.Files (fun f=>f.Id==x.Id) (fun j=> .inr ((j:Int),dirD d,(i:Int))) (.inl (dirD d,(i:Int))) (fuel:=F) (v:=(dirD d,(i:Int),d.Files,(d.Files.length:Int),0)) rfl (fun j y hy=>by
   obtain⟨h1,h2,h3,h4,h5⟩:=idx_facts hy (by omega)
   unfold pG_slices_IndexFunc_IFile_I_Disk_file_1_b1 pI_Disk_file_1
   simp only[h1,br_t,gd_t h2,h3,bd_s,h5,gd_t h4,gd_p (show(0:Int)<=(i:Int)/\(i:Int)<((dirD d).length:Int)from⟨by omega,by omega⟩),Int.toNat_natCast,hx,hy]
   cases y.Id==x.Id<;>rfl) (by unfold pG_slices_IndexFunc_IFile_I_Disk_file_1_b1;simp) (by omega)
  rw[hlp]
  dsimp only
  cases d.Files.findIdx? fun f=>f.Id==x.Id<;>rfl
theorem fileAt_get (h:DkOk d) (n:ByteArray):(fileV d.Files (dirD d) n=none/\fileAt d n= -1/\fnd (dirD d) n=0)∨∃(i:Nat) (f:IFile),fileV d.Files (dirD d) n=some f/\fileAt d n=(i:Int)/\d.Files[i]?=some f/\0<f.Id/\fnd (dirD d) n=f.Id/\atV (fun g=>g.Id==f.Id) d.Files=(i:Int):=by
 obtain⟨k1,k2⟩:=h.l.dir
 cases hq:(dirD d).find? fun l=>decide (l.Name=n)with
 | none=>exact .inl ⟨by unfold fileV;rw[hq],by unfold fileAt;rw[hq],fnd_none hq⟩
 | some x=>
  obtain⟨f,e1,e2,e3⟩:=fileV_some k2 n hq
  have hp:0<x.Id:=k1.p x (List.mem_of_find?_eq_some hq)
  have e4:d.Files.find? (fun f=>decide (f.Id=x.Id))=some f:=by
   unfold fileV at e1
   rw[show(dirV d.Kept d.Turns).find? (fun l=>decide (l.Name=n))=some x from hq]at e1
   exact e1
  cases hi:d.Files.findIdx? (fun g=>g.Id==x.Id)with
  | none=>
   have:=List.findIdx?_eq_none_iff.1 hi f e2
   simp[e3]at this
  | some i=>
   obtain⟨g,g1,g2⟩:=findIdx_get hi
   obtain⟨hil,_,g3⟩:=List.findIdx?_eq_some_iff_getElem.1 hi
   have hg:d.Files.find? (fun f=>decide (f.Id=x.Id))=some g:=find_at g1 (by simpa using g2) fun j y hj hy=>by
    obtain⟨hj',e⟩:=qS1.1 hy
    have:=g3 j hj
    rw[e]at this
    simpa using this
   obtain rfl:f=g:=Option.some.inj (e4.symm.trans hg)
   exact .inr ⟨i,f,e1,by unfold fileAt;rw[hq];exact atV_some hi,g1,by omega,by rw[fnd_some hq,e3],by rw[e3];exact atV_some hi⟩
def readV (d:IDisk) (n:ByteArray):List UInt8×Bool:=match fileV d.Files (dirD d) n with
 | some f=>(f.Body,true)
 | none=>([],false)
theorem clone_byte {l:List UInt8} (h:l.length<=2097152):pG_slices_Clone_byte F l=some l:=by
 unfold pG_slices_Clone_byte
 refine cmpN_eq (by rw[List.nil_append,gd_t (roomB_of h (by decide))]) fun e=>by rw[e]
theorem pI_DiskRead_eq (hd:DkF F d) (h:DkOk d):pI_DiskRead F d n=some (readV d n):=by
 have:=hd.fu;have:=h.nf
 unfold pI_DiskRead readV
 rw[pI_DiskOk_eq hd,h.ok,bd_s,pI_file_eq (by omega) h]
 rcases fileAt_get h n with⟨e1,e2,_⟩ |⟨i,f,e1,e2,e3,_⟩
 ·rw[e1,e2];rfl
 ·have hi:=(qS1.1 e3).1
  have hb:=hd.fb f (qM1 e3)
  rw[e1,e2]
  simp only[Bool.not_true,br_f,bd_s]
  rw[qF1 (show¬(i:Int)<0 by omega),br_f,gd_t ⟨by omega,by omega⟩,Int.toNat_natCast,e3,bd_s,clone_byte (by omega),bd_s]
theorem pS_l02At_eq {n:Int} (hl:d.Files.length<=1000000000) (hf:d.Files.length<F):pS_l02At F d n=some (atV (fun f=>f.Id==n) d.Files):=by
 unfold pS_l02At atV
 have h:=loopF_fnd (B:=pS_l02At_b1 F) (fun i=>(n,d.Files,(d.Files.length:Int),(i:Int))) d.Files (fun f=>f.Id==n) (fun i=> .inr (i:Int)) (.inl ()) (v:=(n,d.Files,(d.Files.length:Int),0)) rfl (fun i x hx=>by
  obtain⟨h1,h2,h3,h4,h5⟩:=idx_facts hx (by omega)
  unfold pS_l02At_b1
  simp only[h1,br_t,gd_t h2,h3,bd_s,h5,gd_t h4]
  cases x.Id==n<;>rfl) (by unfold pS_l02At_b1;simp) hf
 rw[h]
 cases d.Files.findIdx? _<;>rfl
theorem pS_DiskRead_eq (hd:DkF F d) (h:DkOk d):pS_DiskRead F d n=some (readV d n):=by
 have:=hd.fu;have:=h.nf;have:=h.nk;have:=h.nt
 have hl:(dirD d).length<=40:=by have:=dirV_len d.Kept d.Turns;unfold dirD;omega
 unfold pS_DiskRead pS_DiskDir readV
 rw[pS_DiskOk_eq hd,h.ok,bd_s,Bool.not_true,br_f,pS_l02Dir_eq (by omega) h,bd_s,bd_s,pS_l02Find_eq (by omega) (by omega),bd_s]
 rcases fileAt_get h n with⟨e1,_,e2⟩ |⟨i,f,e1,_,e3,e4,e5,e6⟩
 ·rw[e1,e2];rfl
 ·have hi:=(qS1.1 e3).1
  have hb:=hd.fb f (qM1 e3)
  rw[e1,e5,show(f.Id==0)=false by simp;omega,br_f,pS_l02At_eq (by omega) (by omega),bd_s,e6,gd_t ⟨by omega,by omega⟩,Int.toNat_natCast,e3,bd_s,List.nil_append,gd_t (roomB_of (by omega) (by decide))]
def logV (n:Int):ByteArray:=if 1<=n/\n<=1000000000 then ByteArray.mk #[108,111,103,46]++numT n else ByteArray.mk #[]
theorem pI_LogName_eq (n:Int):pI_LogName F n=some (logV n):=by
 have hs:=numT_size n
 unfold pI_LogName pI_isGen logV
 rw[pI_within_eq,bd_s,bd_s]
 by_cases h:1<=n/\n<=1000000000
 ·rw[show(decide (1<=n)&&decide (n<=1000000000))=true by simp[h.1,h.2],if_pos h,Bool.not_true,br_f,pI_NumText_eq,bd_s,gd_t (by show 4+_<=_;omega)]
 ·rw[show(decide (1<=n)&&decide (n<=1000000000))=false by rw[Bool.and_eq_false_iff];simp;omega,if_neg h];rfl
theorem pS_LogName_eq (hF:20<F) (n:Int):pS_LogName F n=some (logV n):=by
 have hs:=numT_size n
 unfold pS_LogName pS_l04Name logV
 by_cases h:1<=n/\n<=1000000000
 ·rw[qF1 (show¬n<1 by omega),qF1 (show¬1000000000<n by omega),if_pos h]
  simp only[br_f,bd_s]
  rw[pS_NumText_eq n hF,bd_s,gd_t (by show 4+_<=_;omega),bd_s]
 ·rw[if_neg h]
  by_cases h1:n<1
  ·rw[qT1 h1];rfl
  ·rw[qF1 h1,qT1 (show 1000000000<n by omega)];rfl
def depotB (p:IDepot):Bool:=diskB p.Disk&&((decide (1<=p.Gen)&&decide (p.Gen<=1000000000))&&((decide (1<=p.Seq)&&decide (p.Seq<=1000000001))&&(decide (0<=p.Size)&&((p.Disk.Fuse==0)||(p.Stuck||((readV p.Disk (logV p.Gen)).2&&((readV p.Disk (logV p.Gen)).1.length:Int)==p.Size))))))
theorem pI_DepotOk_eq {p:IDepot} (hd:DkF F p.Disk):pI_DepotOk F p=some (depotB p):=by
 unfold pI_DepotOk depotB pI_isGen
 rw[pI_DiskOk_eq hd]
 simp only[pI_within_eq,bd_s,pI_LogName_eq,lt_not 0 p.Size]
 cases hb:diskB p.Disk with
 | false=>rfl
 | true=>
  cases decide (1<=p.Gen)&&decide (p.Gen<=1000000000)with
  | false=>rfl
  | true=>
  cases decide (1<=p.Seq)&&decide (p.Seq<=1000000001)with
  | false=>rfl
  | true=>
  cases decide (p.Size<0)with
  | true=>rfl
  | false=>
   simp only[Bool.not_true,Bool.not_false,br_f,bd_s,Bool.true_and]
   cases hf:p.Disk.Fuse==0 with
   | true=>simp only[br_t,bd_s,Bool.true_or]
   | false=>
    simp only[br_f,bd_s,Bool.false_or]
    cases hs:p.Stuck with
    | true=>simp only[br_t,Bool.true_or]
    | false=>
     simp only[br_f,Bool.false_or]
     rw[pI_DiskRead_eq hd (dkOk_of hb),bd_s]
     cases readV p.Disk (logV p.Gen)with
     | mk a b=>cases b<;>rfl
theorem pS_DepotOk_eq {p:IDepot} (hd:DkF F p.Disk):pS_DepotOk F p=some (depotB p):=by
 have hfu:=hd.fu
 unfold pS_DepotOk depotB
 rw[pS_DiskOk_eq hd]
 simp only[bd_s,lt_not]
 cases hb:diskB p.Disk with
 | false=>rfl
 | true=>
  cases decide (p.Gen<1)with
  | true=>rfl
  | false=>
  cases decide (1000000000<p.Gen)with
  | true=>rfl
  | false=>
  cases decide (p.Seq<1)with
  | true=>rfl
  | false=>
  cases decide (1000000001<p.Seq)with
  | true=>rfl
  | false=>
  cases decide (p.Size<0)with
  | true=>rfl
  | false=>
   simp only[Bool.not_true,Bool.not_false,br_f,bd_s,Bool.true_and,Bool.and_self]
   cases hf:p.Disk.Fuse==0 with
   | true=>simp only[br_t,bd_s,Bool.true_or]
   | false=>
    simp only[br_f,bd_s,Bool.false_or]
    cases hs:p.Stuck with
    | true=>simp only[br_t,Bool.true_or]
    | false=>
     simp only[br_f,Bool.false_or]
     rw[pS_LogName_eq (by omega),bd_s,pS_DiskRead_eq hd (dkOk_of hb),bd_s]
     cases readV p.Disk (logV p.Gen)with
     | mk a b=>cases b<;>rfl
theorem procOf_eq {fuel:Nat} {t:ITable} {n:Int} (hl:t.Live.length<=9223372036854775807) (hf:t.Live.length<fuel) :
  (∃(i:Nat) (x:IProc),t.Live[i]?=some x/\(x.Pane==n)=true/\(∀(j:Nat) y,j<i->t.Live[j]?=some y->(y.Pane==n)=false)/\pI_Table_procOf fuel t n=some (i:Int))∨((∀x∈t.Live,(x.Pane==n)=false)/\pI_Table_procOf fuel t n=some (-1)):=by
 unfold pI_Table_procOf pG_slices_IndexFunc_IProc_I_Table_procOf_1
 rcases loopF_find (B:=pG_slices_IndexFunc_IProc_I_Table_procOf_1_b1 fuel) (fun i=>(n,t.Live,(t.Live.length:Int),(i:Int))) t.Live (fun x=>x.Pane==n) (fun i=> .inr ((i:Int),n)) (.inl n) (fuel:=fuel) (v:=(n,t.Live,(t.Live.length:Int),0)) rfl (fun i x hx=>by
  obtain⟨h1,h2,h3,h4,h5⟩:=idx_facts hx hl
  unfold pG_slices_IndexFunc_IProc_I_Table_procOf_1_b1 pI_Table_procOf_1
  simp only[h1,br_t,gd_t h2,h3,bd_s,h5,gd_t h4]
  cases x.Pane==n<;>rfl) (by
  unfold pG_slices_IndexFunc_IProc_I_Table_procOf_1_b1
  simp) hf with⟨i,x,h1,h2,h4,h3⟩ |⟨h1,h2⟩
 ·exact .inl ⟨i,x,h1,h2,h4,by rw[h3];rfl⟩
 ·exact .inr ⟨h1,by rw[h2];rfl⟩
def isIdB (n:Int):Bool:=decide (1<=n)&&decide (n<=1000000)
def prevT (t:ITable) (i:Nat) (x:IProc):Bool:=match i with
 | 0=>false
 | i+1=>match t.Live[i]? with
  | some y=>decide (x.Pid<=y.Pid)
  | none=>false
def seenB (t:ITable) (i:Nat) (x:IProc):Bool:=(t.Live.take i).any fun y=>y.Pane==x.Pane
def badI (t:ITable) (i:Nat) (x:IProc):Bool:= !(decide (1<=x.Pid)&&decide (x.Pid<=IntKind.i64.wrap (t.Next-1)))||(prevT t i x||(!isIdB x.Pane||seenB t i x))
def badT (t:ITable) (i:Nat) (x:IProc):Bool:= !(decide (1<=x.Pid)&&decide (x.Pid<t.Next))||(prevT t i x||(!isIdB x.Pane||seenB t i x))
theorem procOf_at {fuel:Nat} {t:ITable} (hl:t.Live.length<=9223372036854775807) (hf:t.Live.length<fuel) (hx:t.Live[i]?=some x):∃k,pI_Table_procOf fuel t x.Pane=some k/\(k !=(i:Int))=seenB t i x:=by
 rcases procOf_eq (n:=x.Pane) hl hf with⟨j,y,h1,h2,h3,h4⟩ |⟨h1,_⟩
 ·refine⟨j,h4,?_⟩
  have hij:j<=i:=by
   rcases Nat.lt_or_ge i j with h|h
   ·have:=h3 i x h hx
    simp at this
   ·exact h
  by_cases e:j=i
  ·subst e
   have:seenB t j x=false:=by
    unfold seenB
    rw[List.any_eq_false]
    intro z hz
    obtain⟨m,hm⟩:=List.getElem?_of_mem hz
    rw[List.getElem?_take]at hm
    split at hm
    ·rename_i hlt
     have:=h3 m z hlt hm
     simpa using this
    ·cases hm
   rw[this]
   simp
  ·have:seenB t i x=true:=by
    unfold seenB
    rw[List.any_eq_true]
    refine⟨y,?_,h2⟩
    exact qM1 (i:=j) (by rw[List.getElem?_take,if_pos (by omega)];exact h1)
   rw[this]
   simp
   omega
 ·have:=h1 x (qM1 hx)
  simp at this
theorem pI_TableOk_step {fuel:Nat} {t:ITable} (hl:t.Live.length<=9223372036854775807) (hf:t.Live.length<fuel) (hx:t.Live[i]?=some x) :
  pI_TableOk_b1 fuel (t,t.Live,(t.Live.length:Int),(i:Int))=if badI t i x then some (.inr (.inr false))else some (.inl (t,t.Live,(t.Live.length:Int),((i+1:Nat):Int))):=by
 obtain⟨h1,h2,h3,h4,h5⟩:=idx_facts hx hl
 obtain⟨k,hk,hk2⟩:=procOf_at hl hf hx
 unfold pI_TableOk_b1
 simp only[h1,br_t,gd_t h2,h3,bd_s,pI_within_eq,pI_isId_eq,hk]
 unfold badI
 have hfin:∀c:Bool,(br c (some (.inr (.inr false))) (gd (inK IntKind.i64 ((i:Int)+1)) (some (.inl (t,t.Live,(t.Live.length:Int),(i:Int)+1)))):Option ((ITable×List IProc×Int×Int)⊕(ITable⊕Bool)))=if c then some (.inr (.inr false))else some (.inl (t,t.Live,(t.Live.length:Int),((i+1:Nat):Int))):=by
  intro c
  rw[h5,gd_t h4]
  cases c<;>rfl
 cases hp:(decide (1<=x.Pid)&&decide (x.Pid<=IntKind.i64.wrap (t.Next-1)))with
 | false=>simp only[Bool.not_false,br_t,bd_s,Bool.true_or,if_true]
 | true=>
  simp only[Bool.not_true,br_f,Bool.false_or]
  cases i with
  | zero=>
   simp only[show decide ((0:Int)<((0:Nat):Int))=false from rfl,br_f,prevT,Bool.false_or]
   have e:(isIdB x.Pane)=(decide (1<=x.Pane)&&decide (x.Pane<=1000000)):=rfl
   rw[<-e]
   cases isIdB x.Pane with
   | false=>simp only[Bool.not_false,br_t,bd_s,Bool.true_or,if_true]
   | true=>
    simp only[Bool.not_true,br_f,bd_s,Bool.false_or,hk2]
    exact hfin _
  | succ i=>
   have hi0:i<t.Live.length:=by have:=(qS1.1 hx).1;omega
   simp only[qT1 (show(0:Int)<((i+1:Nat):Int) by omega),br_t]
   rw[gd_i64 (by omega) (by omega),gd_ix (by omega) (by omega),show(((i+1:Nat):Int)-1).toNat=i by omega,qE1 hi0]
   have e0:prevT t (i+1) x=decide (x.Pid<=t.Live[i].Pid):=by simp[prevT,hi0]
   simp only[bd_s,e0]
   cases decide (x.Pid<=t.Live[i].Pid)with
   | true=>simp only[br_t,bd_s,Bool.true_or,if_true]
   | false=>
    simp only[br_f,Bool.false_or]
    have e:(isIdB x.Pane)=(decide (1<=x.Pane)&&decide (x.Pane<=1000000)):=rfl
    rw[<-e]
    cases isIdB x.Pane with
    | false=>simp only[Bool.not_false,br_t,bd_s,Bool.true_or,if_true]
    | true=>
     simp only[Bool.not_true,br_f,bd_s,Bool.false_or,hk2]
     exact hfin _
theorem pI_TableOk_any {fuel:Nat} {t:ITable} (hl:t.Live.length<=9223372036854775807) (hf:t.Live.length<fuel):pI_TableOk fuel t=some (!(t.Live.zipIdx.any fun p=>badI t p.2 p.1)&&isIdB t.Next):=by
 unfold pI_TableOk
 have:=loopF_anyI (B:=pI_TableOk_b1 fuel) (fun i=>(t,t.Live,(t.Live.length:Int),(i:Int))) t.Live (badI t) (.inr false) (.inl t) (fuel:=fuel) (v:=(t,t.Live,(t.Live.length:Int),0)) rfl (fun i x hx=>pI_TableOk_step hl hf hx) (by
  unfold pI_TableOk_b1
  simp) hf
 rw[this]
 cases t.Live.zipIdx.any fun p=>badI t p.2 p.1 with
 | true=>rfl
 | false=>simp only[jn_l,Bool.false_eq_true,if_false,pI_isId_eq,bd_s,Bool.not_false,Bool.true_and];rfl
theorem room_int {n:Nat} (h:n<=4000000):roomB K.int n:=by
 refine⟨by omega,?_⟩
 show n*byt K.int<=_
 have:byt K.int=8:=rfl
 rw[this];omega
def panesTo (t:ITable) (i:Nat):List Int:=(t.Live.take i).map (·.Pane)
theorem panes_any (t:ITable) (i:Nat) (x:IProc):((panesTo t i).any fun n=>n==x.Pane)=seenB t i x:=by
 unfold panesTo seenB
 rw[List.any_map]
 rfl
theorem panes_next {t:ITable} (hx:t.Live[i]?=some x):panesTo t i++ [x.Pane]=panesTo t (i+1):=by
 unfold panesTo
 have hi:=(qS1.1 hx).1
 have e:t.Live.take (i+1)=t.Live.take i++ [x]:=by
  rw[List.take_add_one,hx];rfl
 rw[e,List.map_append];rfl
theorem pS_TableOk_step {fuel:Nat} {t:ITable} (hl:t.Live.length<=2000000) (hf:t.Live.length<fuel) (hx:t.Live[i]?=some x) :
  pS_TableOk_b1 fuel (t,panesTo t i,t.Live,(t.Live.length:Int),(i:Int))=if badT t i x then some (.inr (.inr false))else some (.inl (t,panesTo t (i+1),t.Live,(t.Live.length:Int),((i+1:Nat):Int))):=by
 obtain⟨h1,h2,h3,h4,h5⟩:=idx_facts hx (by omega)
 have hplen:(panesTo t i).length<=t.Live.length:=by unfold panesTo;simp;omega
 have hk:pS_l02HasInt fuel (panesTo t i) x.Pane=some (seenB t i x):=by
  rw[hasInt_eq (by omega) (by omega),panes_any]
 unfold pS_TableOk_b1
 simp only[h1,br_t,gd_t h2,h3,bd_s,hk]
 unfold badT
 have hfin:∀c:Bool,(br c (some (.inr (.inr false))) (gd (roomB K.int (panesTo t i++ [x.Pane]).length) (gd (inK IntKind.i64 ((i:Int)+1)) (some (.inl (t,panesTo t i++ [x.Pane],t.Live,(t.Live.length:Int),(i:Int)+1))))):Option ((ITable×List Int×List IProc×Int×Int)⊕(ITable⊕Bool)))=if c then some (.inr (.inr false))else some (.inl (t,panesTo t (i+1),t.Live,(t.Live.length:Int),((i+1:Nat):Int))):=by
  intro c
  rw[gd_t (room_int (by rw[List.length_append];simp;omega)),h5,gd_t h4,panes_next hx]
  cases c<;>rfl
 have n1:decide (x.Pid<1)= !decide (1<=x.Pid):=by by_cases h:1<=x.Pid<;>simp[h]<;>omega
 have n2:decide (t.Next<=x.Pid)= !decide (x.Pid<t.Next):=by by_cases h:x.Pid<t.Next<;>simp[h]<;>omega
 have n3:decide (x.Pane<1)= !decide (1<=x.Pane):=by by_cases h:1<=x.Pane<;>simp[h]<;>omega
 have n4:decide (1000000<x.Pane)= !decide (x.Pane<=1000000):=by by_cases h:x.Pane<=1000000<;>simp[h]<;>omega
 simp only[n1,n2,n3,n4]
 have e:(isIdB x.Pane)=(decide (1<=x.Pane)&&decide (x.Pane<=1000000)):=rfl
 rw[e]
 cases decide (1<=x.Pid)with
 | false=>simp only[Bool.not_false,br_t,bd_s,Bool.false_and,Bool.true_or,if_true]
 | true=>
 cases decide (x.Pid<t.Next)with
 | false=>simp only[Bool.not_false,Bool.not_true,br_t,br_f,bd_s,Bool.true_and,Bool.true_or,if_true]
 | true=>
  simp only[Bool.not_true,br_f,Bool.true_and,Bool.false_or]
  cases i with
  | zero=>
   simp only[show decide ((0:Int)<((0:Nat):Int))=false from rfl,br_f,prevT,Bool.false_or]
   cases decide (1<=x.Pane)with
   | false=>simp only[Bool.not_false,br_t,bd_s,Bool.false_and,Bool.true_or,if_true]
   | true=>
   cases decide (x.Pane<=1000000)with
   | false=>simp only[Bool.not_false,Bool.not_true,br_t,br_f,bd_s,Bool.true_and,Bool.true_or,if_true]
   | true=>
    simp only[Bool.not_true,br_f,bd_s,Bool.true_and,Bool.false_or]
    exact hfin _
  | succ i=>
   have hi0:i<t.Live.length:=by have:=(qS1.1 hx).1;omega
   simp only[qT1 (show(0:Int)<((i+1:Nat):Int) by omega),br_t]
   rw[gd_i64 (by omega) (by omega),gd_ix (by omega) (by omega),show(((i+1:Nat):Int)-1).toNat=i by omega,qE1 hi0]
   have e0:prevT t (i+1) x=decide (x.Pid<=t.Live[i].Pid):=by simp[prevT,hi0]
   simp only[bd_s,e0]
   cases decide (x.Pid<=t.Live[i].Pid)with
   | true=>simp only[br_t,bd_s,Bool.true_or,if_true]
   | false=>
    simp only[br_f,Bool.false_or]
    cases decide (1<=x.Pane)with
    | false=>simp only[Bool.not_false,br_t,bd_s,Bool.false_and,Bool.true_or,if_true]
    | true=>
    cases decide (x.Pane<=1000000)with
    | false=>simp only[Bool.not_false,Bool.not_true,br_t,br_f,bd_s,Bool.true_and,Bool.true_or,if_true]
    | true=>
     simp only[Bool.not_true,br_f,bd_s,Bool.true_and,Bool.false_or]
     exact hfin _
theorem pS_TableOk_any {fuel:Nat} {t:ITable} (hl:t.Live.length<=2000000) (hf:t.Live.length<fuel):pS_TableOk fuel t=some (!(t.Live.zipIdx.any fun p=>badT t p.2 p.1)&&isIdB t.Next):=by
 unfold pS_TableOk
 have:=loopF_anyI (B:=pS_TableOk_b1 fuel) (fun i=>(t,panesTo t i,t.Live,(t.Live.length:Int),(i:Int))) t.Live (badT t) (.inr false) (.inl t) (fuel:=fuel) (v:=(t,[],t.Live,(t.Live.length:Int),0)) rfl (fun i x hx=>pS_TableOk_step hl hf hx) (by
  unfold pS_TableOk_b1
  simp) hf
 rw[this]
 cases t.Live.zipIdx.any fun p=>badT t p.2 p.1 with
 | true=>rfl
 | false=>
  simp only[jn_l,Bool.false_eq_true,if_false,bd_s,Bool.not_false,Bool.true_and]
  unfold isIdB
  cases decide (1<=t.Next)<;>rfl
def tableOkB (t:ITable):Bool:= !(t.Live.zipIdx.any fun p=>badT t p.2 p.1)&&isIdB t.Next
theorem pS_TableOk_eq {fuel:Nat} {t:ITable} (hl:t.Live.length<=2000000) (hf:t.Live.length<fuel):pS_TableOk fuel t=some (tableOkB t):=pS_TableOk_any hl hf
theorem pI_TableOk_eq {fuel:Nat} {t:ITable} (hl:t.Live.length<=2000000) (hf:t.Live.length<fuel):pI_TableOk fuel t=some (tableOkB t):=by
 rw[pI_TableOk_any (by omega) hf]
 unfold tableOkB
 cases hn:isIdB t.Next with
 | false=>simp
 | true=>
  congr 1
  have hn2:1<=t.Next/\t.Next<=1000000:=by simpa [isIdB]using hn
  have:∀(i:Nat) (x:IProc),badI t i x=badT t i x:=by
   intro i x
   unfold badI badT
   rw[(wrap_iff .i64 _).2 ⟨by show -9223372036854775808<=_;omega,by show _<=9223372036854775807;omega⟩]
   congr 3
   by_cases h:x.Pid<t.Next
   ·rw[qT1 h,qT1 (by omega)]
   ·rw[qF1 h,qF1 (by omega)]
  simp only[this]
def inB (h:Bool) (a lo hi:Int):Bool:=br h (decide (lo<=a)&&decide (a<=hi)) (a==0)
theorem pS_l16In_eq (F:Nat) (h:Bool) (a lo hi:Int):pS_l16In F h a lo hi=some (inB h a lo hi):=by
 unfold pS_l16In inB
 cases h with
 | false=>rfl
 | true=>cases decide (lo<=a)<;>rfl
theorem br_and (a b:Bool):br a (some b) (some false)=some (a&&b):=by cases a<;>rfl
theorem br_pf (a b:Bool) (x:α):br a (some (x,b)) (some (x,false))=some (x,a&&b):=by cases a<;>rfl
def cmdB (o:IOp):Bool:=decide ((o.Text.size:Int)<=60)&&decide ((o.Dir.size:Int)<=60)
def noCmd (o:IOp):Bool:=decide (o.Text=ByteArray.mk #[])&&decide (o.Dir=ByteArray.mk #[])
def opC (o:IOp) (h0 h1 h2 h3 h4 h5:Bool) (ha lb hb:Int):Bool:=
 inB h0 o.A 1 ha&&(inB h1 o.B lb hb&&(inB h2 o.C 1 120&&(inB h5 (o.Data.length:Int) 1 2000&&(br h3 (wordB o.Name) (decide (o.Name=ByteArray.mk #[]))&&br h4 (cmdB o) (noCmd o)))))
def opB (o:IOp):Bool:=
 br (o.Kind==1) (opC o false false false true true false 1000000 1 1000000) <|
 br (o.Kind==2) (opC o false false false true true false 1000000 1 1000000) <|
 br (o.Kind==3) (opC o true true false false true false 1000000 0 1) <|
 br (o.Kind==4) (opC o true false false false false false 1000000 1 1000000) <|
 br (o.Kind==5) (opC o true false false false false true 1000000 1 1000000) <|
 br (o.Kind==6) (opC o true true false false false false 1000000 0 255) <|
 br (o.Kind==7) (opC o true false false false false false 1000000 1 1000000) <|
 br (o.Kind==8) (opC o true false false false false false 1000000 1 1000000) <|
 br (o.Kind==9) (opC o true true false false false false 1000000 1 1000000) <|
 br (o.Kind==10) (opC o true true true false false false 1000000 68 85&&(o.B==76||(o.B==82||(o.B==85||o.B==68)))) <|
 br (o.Kind==11) (opC o true false false true false false 1000000 1 1000000) <|
 br (o.Kind==12) (opC o true true false false false false 120 1 120) <|
 br (o.Kind==13) (opC o true true false false false false 1000000 1 1000000) <|
 br (o.Kind==14) (opC o true false false false false false 1000000 1 1000000) false
theorem opS_tail (hs:o.Name.size<=1048576) (hf:1048576<F) (h0 h1 h2 h3 h4 h5:Bool):(bd (α:=IOp×Bool) (
  gd ((0:Int)<=(3:Int)/\(3:Int)<(([h0,h1,h2,h3,h4,h5].length:Nat):Int)) <|
  bd ([h0,h1,h2,h3,h4,h5][0+Int.toNat 3]?) fun x24=>
  br x24 (
   bd (pS_WordOk F o.Name) fun x25=>
   br (!x25) (
    some (o,true)) <|
   gd ((0:Int)<=(3:Int)/\(3:Int)<(([h0,h1,h2,h3,h4,h5].length:Nat):Int)) <|
   bd ([h0,h1,h2,h3,h4,h5][0+Int.toNat 3]?) fun x26=>
   br (!x26) (
    br (!decide (o.Name=ByteArray.mk #[])) (
     some (o,true)) <|
    gd ((0:Int)<=(4:Int)/\(4:Int)<(([h0,h1,h2,h3,h4,h5].length:Nat):Int)) <|
    bd ([h0,h1,h2,h3,h4,h5][0+Int.toNat 4]?) fun x27=>
    br (!x27) (
     br (!decide (o.Text=ByteArray.mk #[])) (
      some (o,true)) <|
     some (o,!decide (o.Dir=ByteArray.mk #[]))) <|
    some (o,false)) <|
   gd ((0:Int)<=(4:Int)/\(4:Int)<(([h0,h1,h2,h3,h4,h5].length:Nat):Int)) <|
   bd ([h0,h1,h2,h3,h4,h5][0+Int.toNat 4]?) fun x28=>
   br (!x28) (
    br (!decide (o.Text=ByteArray.mk #[])) (
     some (o,true)) <|
    some (o,!decide (o.Dir=ByteArray.mk #[]))) <|
   some (o,false)) <|
  gd ((0:Int)<=(3:Int)/\(3:Int)<(([h0,h1,h2,h3,h4,h5].length:Nat):Int)) <|
  bd ([h0,h1,h2,h3,h4,h5][0+Int.toNat 3]?) fun x29=>
  br (!x29) (
   br (!decide (o.Name=ByteArray.mk #[])) (
    some (o,true)) <|
   gd ((0:Int)<=(4:Int)/\(4:Int)<(([h0,h1,h2,h3,h4,h5].length:Nat):Int)) <|
   bd ([h0,h1,h2,h3,h4,h5][0+Int.toNat 4]?) fun x30=>
   br (!x30) (
    br (!decide (o.Text=ByteArray.mk #[])) (
     some (o,true)) <|
    some (o,!decide (o.Dir=ByteArray.mk #[]))) <|
   some (o,false)) <|
  gd ((0:Int)<=(4:Int)/\(4:Int)<(([h0,h1,h2,h3,h4,h5].length:Nat):Int)) <|
  bd ([h0,h1,h2,h3,h4,h5][0+Int.toNat 4]?) fun x31=>
  br (!x31) (
   br (!decide (o.Text=ByteArray.mk #[])) (
    some (o,true)) <|
   some (o,!decide (o.Dir=ByteArray.mk #[]))) <|
  some (o,false)) fun(x32,x33)=>
 br x33 (
  some false) <|
 bd (α:=Bool) (
  br (decide ((↑x32.Text.size:Int)<=60)) (
   some (decide ((↑x32.Dir.size:Int)<=60))) <|
  some false) fun x34=>
 some x34)=some (br h3 (wordB o.Name) (decide (o.Name=ByteArray.mk #[]))&&br h4 (cmdB o) (noCmd o)):=by
 have g3:(0:Int)<=(3:Int)/\(3:Int)<(([h0,h1,h2,h3,h4,h5].length:Nat):Int):=⟨by decide,by show(3:Int)<6;decide⟩
 have g4:(0:Int)<=(4:Int)/\(4:Int)<(([h0,h1,h2,h3,h4,h5].length:Nat):Int):=⟨by decide,by show(4:Int)<6;decide⟩
 rw[pS_WordOk_eq hs (by omega)]
 unfold cmdB noCmd
 have ht:decide (o.Text=ByteArray.mk #[])=true->decide ((o.Text.size:Int)<=60)=true:=fun h=>by rw[of_decide_eq_true h];rfl
 have hd:decide (o.Dir=ByteArray.mk #[])=true->decide ((o.Dir.size:Int)<=60)=true:=fun h=>by rw[of_decide_eq_true h];rfl
 simp only[gd_p g3,gd_p g4]
 show bd (br h3 (bd (some (wordB o.Name)) fun x25=>_) _) _=_
 generalize decide (o.Name=ByteArray.mk #[])=n
 cases hn:decide (o.Text=ByteArray.mk #[])<;>cases hm:decide (o.Dir=ByteArray.mk #[])<;>cases ha:decide ((o.Text.size:Int)<=60)<;>cases hb:decide ((o.Dir.size:Int)<=60)<;>simp only[hn,hm,ha,hb,Bool.false_eq_true,imp_false,not_true_eq_false,true_implies]at ht hd<;>cases h3<;>cases h4<;>cases wordB o.Name<;>cases n<;>simp only[ha,hb,br_t,br_f,bd_s,Bool.not_true,Bool.not_false,Bool.and_true,Bool.true_and,Bool.false_and,Bool.and_false,Bool.and_self]<;>first|rfl|(show bd (br _ _ _) _=_;rw[ha];first|rfl|(show bd (some _) _=_;rw[hb];rfl))
theorem opS_mid (h0 h1 h2 h3 h4 h5:Bool) (ha lb hb:Int):(
  gd ((0:Int)<=(0:Int)/\(0:Int)<(([h0,h1,h2,h3,h4,h5].length:Nat):Int)) <|
  bd ([h0,h1,h2,h3,h4,h5][0+Int.toNat 0]?) fun x10=>
  bd (pS_l16In F x10 o.A 1 ha) fun x11=>
  br (!x11) (
   some (o,[h0,h1,h2,h3,h4,h5],true)) <|
  gd ((0:Int)<=(1:Int)/\(1:Int)<(([h0,h1,h2,h3,h4,h5].length:Nat):Int)) <|
  bd ([h0,h1,h2,h3,h4,h5][0+Int.toNat 1]?) fun x12=>
  bd (pS_l16In F x12 o.B lb hb) fun x13=>
  br (!x13) (
   some (o,[h0,h1,h2,h3,h4,h5],true)) <|
  gd ((0:Int)<=(2:Int)/\(2:Int)<(([h0,h1,h2,h3,h4,h5].length:Nat):Int)) <|
  bd ([h0,h1,h2,h3,h4,h5][0+Int.toNat 2]?) fun x14=>
  bd (pS_l16In F x14 o.C 1 120) fun x15=>
  br (!x15) (
   some (o,[h0,h1,h2,h3,h4,h5],true)) <|
  gd ((0:Int)<=(5:Int)/\(5:Int)<(([h0,h1,h2,h3,h4,h5].length:Nat):Int)) <|
  bd ([h0,h1,h2,h3,h4,h5][0+Int.toNat 5]?) fun x16=>
  bd (pS_l16In F x16 (↑o.Data.length:Int) 1 2000) fun x17=>
  some (o,[h0,h1,h2,h3,h4,h5],!x17))=some (o,[h0,h1,h2,h3,h4,h5],!(inB h0 o.A 1 ha&&(inB h1 o.B lb hb&&(inB h2 o.C 1 120&&inB h5 (o.Data.length:Int) 1 2000)))):=by
 have g0:(0:Int)<=(0:Int)/\(0:Int)<(([h0,h1,h2,h3,h4,h5].length:Nat):Int):=⟨by decide,by show(0:Int)<6;decide⟩
 have g1:(0:Int)<=(1:Int)/\(1:Int)<(([h0,h1,h2,h3,h4,h5].length:Nat):Int):=⟨by decide,by show(1:Int)<6;decide⟩
 have g2:(0:Int)<=(2:Int)/\(2:Int)<(([h0,h1,h2,h3,h4,h5].length:Nat):Int):=⟨by decide,by show(2:Int)<6;decide⟩
 have g5:(0:Int)<=(5:Int)/\(5:Int)<(([h0,h1,h2,h3,h4,h5].length:Nat):Int):=⟨by decide,by show(5:Int)<6;decide⟩
 simp only[pS_l16In_eq,gd_p g0,gd_p g1,gd_p g2,gd_p g5]
 show br (!inB h0 o.A 1 ha) _ (br (!inB h1 o.B lb hb) _ (br (!inB h2 o.C 1 120) _ _))=_
 cases inB h0 o.A 1 ha<;>cases inB h1 o.B lb hb<;>cases inB h2 o.C 1 120<;>rfl
def sideB (o:IOp):Bool:=(o.B==76)||((o.B==82)||((o.B==85)||(o.B==68)))
theorem opS_of (hs:o.Name.size<=1048576) (hf:1048576<F) (h0 h1 h2 h3 h4 h5:Bool) (ha lb hb:Int) (hk:1<=o.Kind/\o.Kind<=14) (e1:pS_l16Has F o.Kind=some [h0,h1,h2,h3,h4,h5])
  (e2:(br (o.Kind==12) (some (o,[h0,h1,h2,h3,h4,h5],120,1,120))<|br (o.Kind==3) (some (o,[h0,h1,h2,h3,h4,h5],1000000,0,1))<|br (o.Kind==6) (some (o,[h0,h1,h2,h3,h4,h5],1000000,0,255))<|br (o.Kind==10) (some (o,[h0,h1,h2,h3,h4,h5],1000000,68,85))<|some (o,[h0,h1,h2,h3,h4,h5],1000000,1,1000000))=some (o,[h0,h1,h2,h3,h4,h5],ha,lb,hb)) :
  pS_OpOk F o=some (opC o h0 h1 h2 h3 h4 h5 ha lb hb&&br (o.Kind==10) (sideB o) true):=by
 have ht:=opS_tail (o:=o) hs hf h0 h1 h2 h3 h4 h5
 have hm:=opS_mid (F:=F) (o:=o) h0 h1 h2 h3 h4 h5 ha lb hb
 unfold pS_OpOk
 rw[qF1 (show¬o.Kind<1 by omega),qF1 (show¬14<o.Kind by omega)]
 simp only[br_f,bd_s]
 rw[e1,bd_s,e2,bd_s]
 simp only
 rw[hm,bd_s]
 simp only
 unfold opC
 generalize (br h3 (wordB o.Name) (decide (o.Name=ByteArray.mk #[]))&&br h4 (cmdB o) (noCmd o))=T at ht⊢
 cases inB h0 o.A 1 ha with
 | false=>rfl
 | true=>
 cases inB h1 o.B lb hb with
 | false=>rfl
 | true=>
 cases inB h2 o.C 1 120 with
 | false=>rfl
 | true=>
 cases inB h5 (o.Data.length:Int) 1 2000 with
 | false=>rfl
 | true=>
  simp only[Bool.and_self,Bool.not_true,br_f,Bool.true_and]
  cases o.Kind==10 with
  | false=>
   simp only[br_f,bd_s,Bool.and_true]
   exact ht
  | true=>
   unfold sideB
   simp only[br_t,bne]
   cases o.B==76 with
   | true=>simp only[Bool.not_true,br_f,bd_s,Bool.true_or,Bool.and_true];exact ht
   | false=>
   cases o.B==82 with
   | true=>simp only[Bool.not_true,Bool.not_false,br_t,br_f,bd_s,Bool.true_or,Bool.or_true,Bool.and_true];exact ht
   | false=>
   cases o.B==85 with
   | true=>simp only[Bool.not_true,Bool.not_false,br_t,br_f,bd_s,Bool.true_or,Bool.or_true,Bool.and_true];exact ht
   | false=>
   cases o.B==68 with
   | true=>simp only[Bool.not_true,Bool.not_false,br_t,br_f,bd_s,Bool.true_or,Bool.or_true,Bool.and_true];exact ht
   | false=>simp only[Bool.not_false,br_t,bd_s,Bool.or_self,Bool.and_false]
theorem kinds (k:Int):(k<1∨14<k)∨k=1∨k=2∨k=3∨k=4∨k=5∨k=6∨k=7∨k=8∨k=9∨k=10∨k=11∨k=12∨k=13∨k=14:=by omega
theorem opB_bad (h:o.Kind<1∨14<o.Kind):opB o=false:=by
 have f:∀j:Int,1<=j->j<=14->(o.Kind==j)=false:=fun j h1 h2=>beq_eq_false_iff_ne.2 (by omega)
 unfold opB
 rw[f 1 (by decide) (by decide),f 2 (by decide) (by decide),f 3 (by decide) (by decide),f 4 (by decide) (by decide),f 5 (by decide) (by decide),f 6 (by decide) (by decide),f 7 (by decide) (by decide),f 8 (by decide) (by decide),f 9 (by decide) (by decide),f 10 (by decide) (by decide),f 11 (by decide) (by decide),f 12 (by decide) (by decide),f 13 (by decide) (by decide),f 14 (by decide) (by decide)]
 rfl
theorem pS_OpOk_eq (hs:o.Name.size<=1048576) (hf:1048576<F):pS_OpOk F o=some (opB o):=by
 have go:∀(h0 h1 h2 h3 h4 h5:Bool) (ha lb hb:Int) (k:Int),o.Kind=k->1<=k->k<=14->pS_l16Has F k=some [h0,h1,h2,h3,h4,h5]->(br (k==12) (some (o,[h0,h1,h2,h3,h4,h5],(120:Int),(1:Int),(120:Int)))<|br (k==3) (some (o,[h0,h1,h2,h3,h4,h5],1000000,0,1))<|br (k==6) (some (o,[h0,h1,h2,h3,h4,h5],1000000,0,255))<|br (k==10) (some (o,[h0,h1,h2,h3,h4,h5],1000000,68,85))<|some (o,[h0,h1,h2,h3,h4,h5],1000000,1,1000000))=some (o,[h0,h1,h2,h3,h4,h5],ha,lb,hb)->(opC o h0 h1 h2 h3 h4 h5 ha lb hb&&br (k==10) (sideB o) true)=opB o->pS_OpOk F o=some (opB o):=by
  rintro h0 h1 h2 h3 h4 h5 ha lb hb k rfl k1 k2 e1 e2 e3
  rw[opS_of hs hf h0 h1 h2 h3 h4 h5 ha lb hb ⟨k1,k2⟩ e1 e2,e3]
 rcases kinds o.Kind with h|h|h|h|h|h|h|h|h|h|h|h|h|h|h
 ·rw[opB_bad h]
  unfold pS_OpOk
  rcases h with h|h
  ·rw[qT1 h];rfl
  ·rw[qT1 h,qF1 (show¬o.Kind<1 by omega)];rfl
 ·exact go false false false true true false 1000000 1 1000000 1 h (by decide) (by decide) rfl rfl (by unfold opB;rw[h];exact Bool.and_true _)
 ·exact go false false false true true false 1000000 1 1000000 2 h (by decide) (by decide) rfl rfl (by unfold opB;rw[h];exact Bool.and_true _)
 ·exact go true true false false true false 1000000 0 1 3 h (by decide) (by decide) rfl rfl (by unfold opB;rw[h];exact Bool.and_true _)
 ·exact go true false false false false false 1000000 1 1000000 4 h (by decide) (by decide) rfl rfl (by unfold opB;rw[h];exact Bool.and_true _)
 ·exact go true false false false false true 1000000 1 1000000 5 h (by decide) (by decide) rfl rfl (by unfold opB;rw[h];exact Bool.and_true _)
 ·exact go true true false false false false 1000000 0 255 6 h (by decide) (by decide) rfl rfl (by unfold opB;rw[h];exact Bool.and_true _)
 ·exact go true false false false false false 1000000 1 1000000 7 h (by decide) (by decide) rfl rfl (by unfold opB;rw[h];exact Bool.and_true _)
 ·exact go true false false false false false 1000000 1 1000000 8 h (by decide) (by decide) rfl rfl (by unfold opB;rw[h];exact Bool.and_true _)
 ·exact go true true false false false false 1000000 1 1000000 9 h (by decide) (by decide) rfl rfl (by unfold opB;rw[h];exact Bool.and_true _)
 ·exact go true true true false false false 1000000 68 85 10 h (by decide) (by decide) rfl rfl (by unfold opB;rw[h];rfl)
 ·exact go true false false true false false 1000000 1 1000000 11 h (by decide) (by decide) rfl rfl (by unfold opB;rw[h];exact Bool.and_true _)
 ·exact go true true false false false false 120 1 120 12 h (by decide) (by decide) rfl rfl (by unfold opB;rw[h];exact Bool.and_true _)
 ·exact go true true false false false false 1000000 1 1000000 13 h (by decide) (by decide) rfl rfl (by unfold opB;rw[h];exact Bool.and_true _)
 ·exact go true false false false false false 1000000 1 1000000 14 h (by decide) (by decide) rfl rfl (by unfold opB;rw[h];exact Bool.and_true _)
theorem pI_isSide_eq (F:Nat) (a:Int):pI_isSide F a=some ((a==76)||((a==82)||((a==85)||(a==68)))):=by
 unfold pI_isSide
 cases a==76<;>cases a==82<;>cases a==85<;>rfl
theorem pI_isLength_eq (F:Nat) (a:Int):pI_isLength F a=some (decide (1<=a)&&decide (a<=120)):=by
 unfold pI_isLength
 rw[pI_within_eq]
 rfl
theorem nil_mk:decide (ByteArray.mk #[]=ByteArray.mk #[])=true:=qT1 rfl
theorem nil_len:((([]:List UInt8).length:Int)==0)=true:=rfl
theorem pI_OpOk_eq (hs:o.Name.size<=1048576) (hf:1048576<F):pI_OpOk F o=some (opB o):=by
 have hw:=pI_WordOk_eq (fuel:=F) hs (by omega)
 rcases kinds o.Kind with h|h|h|h|h|h|h|h|h|h|h|h|h|h|h
 ·rw[opB_bad h]
  have f:∀j:Int,1<=j->j<=14->(o.Kind==j)=false:=fun j h1 h2=>beq_eq_false_iff_ne.2 (by omega)
  unfold pI_OpOk
  simp only[f 1 (by decide) (by decide),f 2 (by decide) (by decide),f 3 (by decide) (by decide),f 4 (by decide) (by decide),f 5 (by decide) (by decide),f 6 (by decide) (by decide),f 7 (by decide) (by decide),f 8 (by decide) (by decide),f 9 (by decide) (by decide),f 10 (by decide) (by decide),f 11 (by decide) (by decide),f 12 (by decide) (by decide),f 13 (by decide) (by decide),f 14 (by decide) (by decide),br_f,bd_s,br_pf,br_and,Bool.false_and]
 ·unfold pI_OpOk opB
  simp only[h,Int.reduceBEq,br_t,br_f,bd_s,hw,pI_isCmd_eq,pI_isId_eq,pI_within_eq,pI_isSide_eq,pI_isLength_eq,br_pf,br_and,nil_mk,nil_len,Bool.and_true,Bool.true_and]
  unfold opC inB cmdB noCmd
  simp only[br_t,br_f]
  congr 1
  ac_rfl
 ·unfold pI_OpOk opB
  simp only[h,Int.reduceBEq,br_t,br_f,bd_s,hw,pI_isCmd_eq,pI_isId_eq,pI_within_eq,pI_isSide_eq,pI_isLength_eq,br_pf,br_and,nil_mk,nil_len,Bool.and_true,Bool.true_and]
  unfold opC inB cmdB noCmd
  simp only[br_t,br_f]
  congr 1
  ac_rfl
 ·unfold pI_OpOk opB
  simp only[h,Int.reduceBEq,br_t,br_f,bd_s,hw,pI_isCmd_eq,pI_isId_eq,pI_within_eq,pI_isSide_eq,pI_isLength_eq,br_pf,br_and,nil_mk,nil_len,Bool.and_true,Bool.true_and]
  unfold opC inB cmdB noCmd
  simp only[br_t,br_f]
  congr 1
  ac_rfl
 ·unfold pI_OpOk opB
  simp only[h,Int.reduceBEq,br_t,br_f,bd_s,hw,pI_isCmd_eq,pI_isId_eq,pI_within_eq,pI_isSide_eq,pI_isLength_eq,br_pf,br_and,nil_mk,nil_len,Bool.and_true,Bool.true_and]
  unfold opC inB cmdB noCmd
  simp only[br_t,br_f]
  congr 1
  ac_rfl
 ·unfold pI_OpOk opB
  simp only[h,Int.reduceBEq,br_t,br_f,bd_s,hw,pI_isCmd_eq,pI_isId_eq,pI_within_eq,pI_isSide_eq,pI_isLength_eq,br_pf,br_and,nil_mk,nil_len,Bool.and_true,Bool.true_and]
  unfold opC inB cmdB noCmd
  simp only[br_t,br_f]
  congr 1
  ac_rfl
 ·unfold pI_OpOk opB
  simp only[h,Int.reduceBEq,br_t,br_f,bd_s,hw,pI_isCmd_eq,pI_isId_eq,pI_within_eq,pI_isSide_eq,pI_isLength_eq,br_pf,br_and,nil_mk,nil_len,Bool.and_true,Bool.true_and]
  unfold opC inB cmdB noCmd
  simp only[br_t,br_f]
  congr 1
  ac_rfl
 ·unfold pI_OpOk opB
  simp only[h,Int.reduceBEq,br_t,br_f,bd_s,hw,pI_isCmd_eq,pI_isId_eq,pI_within_eq,pI_isSide_eq,pI_isLength_eq,br_pf,br_and,nil_mk,nil_len,Bool.and_true,Bool.true_and]
  unfold opC inB cmdB noCmd
  simp only[br_t,br_f]
  congr 1
  ac_rfl
 ·unfold pI_OpOk opB
  simp only[h,Int.reduceBEq,br_t,br_f,bd_s,hw,pI_isCmd_eq,pI_isId_eq,pI_within_eq,pI_isSide_eq,pI_isLength_eq,br_pf,br_and,nil_mk,nil_len,Bool.and_true,Bool.true_and]
  unfold opC inB cmdB noCmd
  simp only[br_t,br_f]
  congr 1
  ac_rfl
 ·unfold pI_OpOk opB
  simp only[h,Int.reduceBEq,br_t,br_f,bd_s,hw,pI_isCmd_eq,pI_isId_eq,pI_within_eq,pI_isSide_eq,pI_isLength_eq,br_pf,br_and,nil_mk,nil_len,Bool.and_true,Bool.true_and]
  unfold opC inB cmdB noCmd
  simp only[br_t,br_f]
  congr 1
  ac_rfl
 ·unfold pI_OpOk opB
  simp only[h,Int.reduceBEq,br_t,br_f,bd_s,hw,pI_isCmd_eq,pI_isId_eq,pI_within_eq,pI_isSide_eq,pI_isLength_eq,br_pf,br_and,nil_mk,nil_len,Bool.and_true,Bool.true_and]
  unfold opC inB cmdB noCmd
  simp only[br_t,br_f]
  have hsd:((o.B==76)||((o.B==82)||((o.B==85)||(o.B==68))))=((decide (68<=o.B)&&decide (o.B<=85))&&((o.B==76)||((o.B==82)||((o.B==85)||(o.B==68))))):=by
   rw[Bool.eq_iff_iff]
   simp only[Bool.or_eq_true,Bool.and_eq_true,beq_iff_eq,decide_eq_true_eq]
   omega
  congr 1
  conv=>lhs;rw[hsd]
  ac_rfl
 ·unfold pI_OpOk opB
  simp only[h,Int.reduceBEq,br_t,br_f,bd_s,hw,pI_isCmd_eq,pI_isId_eq,pI_within_eq,pI_isSide_eq,pI_isLength_eq,br_pf,br_and,nil_mk,nil_len,Bool.and_true,Bool.true_and]
  unfold opC inB cmdB noCmd
  simp only[br_t,br_f]
  congr 1
  ac_rfl
 ·unfold pI_OpOk opB
  simp only[h,Int.reduceBEq,br_t,br_f,bd_s,hw,pI_isCmd_eq,pI_isId_eq,pI_within_eq,pI_isSide_eq,pI_isLength_eq,br_pf,br_and,nil_mk,nil_len,Bool.and_true,Bool.true_and]
  unfold opC inB cmdB noCmd
  simp only[br_t,br_f]
  congr 1
  ac_rfl
 ·unfold pI_OpOk opB
  simp only[h,Int.reduceBEq,br_t,br_f,bd_s,hw,pI_isCmd_eq,pI_isId_eq,pI_within_eq,pI_isSide_eq,pI_isLength_eq,br_pf,br_and,nil_mk,nil_len,Bool.and_true,Bool.true_and]
  unfold opC inB cmdB noCmd
  simp only[br_t,br_f]
  congr 1
  ac_rfl
 ·unfold pI_OpOk opB
  simp only[h,Int.reduceBEq,br_t,br_f,bd_s,hw,pI_isCmd_eq,pI_isId_eq,pI_within_eq,pI_isSide_eq,pI_isLength_eq,br_pf,br_and,nil_mk,nil_len,Bool.and_true,Bool.true_and]
  unfold opC inB cmdB noCmd
  simp only[br_t,br_f]
  congr 1
  ac_rfl
def opsV (l:List IHist):Nat:=l.countP fun x=> !x.Lost
theorem opsV_le (l:List IHist):opsV l<=l.length:=List.countP_le_length
theorem pI_OpsOf_eq {l:List IHist} (hl:l.length<=1048576) (hf:1048576<F):pI_OpsOf F l=some (opsV l:Int):=by
 unfold pI_OpsOf
 have key:loopF (pI_OpsOf_b1 F) F (0,l,(l.length:Int),0)=some (opsV l:Int):=by
  refine loopF_run (fun i=>((opsV (l.take i):Int),l,(l.length:Int),(i:Int))) l.length _ rfl (fun i hi=> ?_) (by unfold pI_OpsOf_b1;simp) (by omega)
  have hx:l[i]?=some l[i]:=qE1 hi
  obtain⟨h1,h2,h3,h4,h5⟩:=idx_facts hx (by omega)
  have hm:opsV (l.take (i+1))=opsV (l.take i)+if l[i].Lost then 0 else 1:=by
   unfold opsV
   rw[take_succ_get hx,List.countP_append,List.countP_singleton]
   cases l[i].Lost<;>rfl
  have hlen:=opsV_le (l.take i)
  rw[List.length_take]at hlen
  generalize l[i]=x at hx h3 hm
  unfold pI_OpsOf_b1
  simp only[h1,br_t,gd_t h2,h3,bd_s]
  cases hk:x.Lost with
  | true=>
   rw[hk]at hm
   simp only[Bool.not_true,br_f,bd_s]
   rw[h5,gd_t h4,hm]
   rfl
  | false=>
   rw[hk]at hm
   simp only[Bool.not_false,br_t]
   rw[gd_t (inK64 (by omega) (by omega)),bd_s]
   simp only
   rw[h5,gd_t h4,hm]
   rfl
 rw[key]
 rfl
theorem pS_OpsOf_eq {l:List IHist} (hl:l.length<=1048576) (hf:1048576<F):pS_OpsOf F l=some (opsV l:Int):=pI_OpsOf_eq hl hf
theorem sum3 (a b c:Nat):(((a:Int)+(b:Int)+(c:Int))==0)=(((a:Int)==0)&&(((b:Int)==0)&&((c:Int)==0))):=by
 rw[Bool.eq_iff_iff]
 simp only[Bool.and_eq_true,beq_iff_eq]
 omega
def zeroDiskB (d:IDisk):Bool:=(d.Room==0)&&((d.Fuse==0)&&((d.Next==0)&&(((d.Files.length:Int)==0)&&(((d.Kept.length:Int)==0)&&((d.Turns.length:Int)==0)))))
theorem pI_isZeroDisk_eq (h:DkF F d):pI_isZeroDisk F d=some (zeroDiskB d):=by
 have:=h.fl;have:=h.kl;have:=h.tl
 unfold pI_isZeroDisk zeroDiskB
 rw[gd_t (inK64 (by omega) (by omega)),gd_t (inK64 (by omega) (by omega)),sum3]
 simp only[br_and,bd_s]
theorem pS_l22NoDisk_eq (F:Nat) (d:IDisk):pS_l22NoDisk F d=some (zeroDiskB d):=by
 unfold pS_l22NoDisk zeroDiskB
 simp only[br_and,bd_s]
def zeroStateB (s:IState):Bool:=(s.W==0)&&((s.H==0)&&((s.Limit==0)&&((s.Next==0)&&(((s.Panes.length:Int)==0)&&(((s.Wins.length:Int)==0)&&((s.Sess.length:Int)==0))))))
theorem pI_isZeroState_eq (h1:s.Panes.length<=1048576) (h2:s.Wins.length<=1048576) (h3:s.Sess.length<=1048576):pI_isZeroState F s=some (zeroStateB s):=by
 unfold pI_isZeroState zeroStateB
 rw[gd_t (inK64 (by omega) (by omega)),gd_t (inK64 (by omega) (by omega)),sum3]
 simp only[br_and,bd_s]
theorem pS_l22NoState_eq (F:Nat) (s:IState):pS_l22NoState F s=some (zeroStateB s):=by
 unfold pS_l22NoState zeroStateB
 simp only[br_and,bd_s]
def zeroDepotB (p:IDepot):Bool:=zeroDiskB p.Disk&&((p.Gen==0)&&((p.Seq==0)&&((p.Size==0)&& !p.Stuck)))
theorem pI_isZeroDepot_eq {p:IDepot} (h:DkF F p.Disk):pI_isZeroDepot F p=some (zeroDepotB p):=by
 unfold pI_isZeroDepot zeroDepotB
 rw[pI_isZeroDisk_eq h]
 simp only[br_and,bd_s]
def zeroOpB (a1:IOp):Bool:=(a1.Kind==0)&&((a1.A==0)&&((a1.B==0)&&((a1.C==0)&&(decide (a1.Name=ByteArray.mk #[])&&(decide (a1.Text=ByteArray.mk #[])&&(decide (a1.Dir=ByteArray.mk #[])&&((a1.Data.length:Int)==0)))))))
theorem pI_isZeroOp_eq (F:Nat) (o:IOp):pI_isZeroOp F o=some (zeroOpB o):=by
 unfold pI_isZeroOp zeroOpB
 simp only[br_and,bd_s]
theorem pS_l22NoOp_eq (F:Nat) (o:IOp):pS_l22NoOp F o=some (zeroOpB o):=pI_isZeroOp_eq F o
def histB (x:IHist):Bool:=br x.Lost (zeroOpB x.Op) (opB x.Op)
theorem pI_SrvOk_1_eq {x:IHist} (hs:x.Op.Name.size<=1048576) (hf:1048576<F):pI_SrvOk_1 F x=some (!histB x):=by
 unfold pI_SrvOk_1 pI_isHist histB
 rw[pI_isZeroOp_eq,pI_OpOk_eq hs hf]
 cases x.Lost<;>rfl
theorem pI_hists_eq {l:List IHist} (hl:l.length<=1048576) (hn:∀x∈l,x.Op.Name.size<=1048576) (hf:1048576<F):pG_slices_ContainsFunc_IHist_I_SrvOk_1 F l=some (l.any fun x=> !histB x):=by
 unfold pG_slices_ContainsFunc_IHist_I_SrvOk_1 pG_slices_IndexFunc_IHist_I_SrvOk_1
 have h:=loopF_fnd (B:=pG_slices_IndexFunc_IHist_I_SrvOk_1_b1 F) (fun i=>(l,(l.length:Int),(i:Int))) l (fun x=> !histB x) (fun i=> .inr (i:Int)) (.inl ()) (fuel:=F) (v:=(l,(l.length:Int),0)) rfl (fun i x hx=>by
  obtain⟨h1,h2,h3,h4,h5⟩:=idx_facts hx (by omega)
  unfold pG_slices_IndexFunc_IHist_I_SrvOk_1_b1
  simp only[h1,br_t,gd_t h2,h3,bd_s,h5,gd_t h4,pI_SrvOk_1_eq (hn x (qM1 hx)) hf]
  cases histB x<;>rfl) (by unfold pG_slices_IndexFunc_IHist_I_SrvOk_1_b1;simp) (by omega)
 rw[h,<-atV_nonneg]
 unfold atV
 cases l.findIdx? fun x=> !histB x<;>rfl
theorem pS_SrvOk_b1_eq {s:ISrv} (hl:s.Done.length<=1048576) (hn:∀x∈s.Done,x.Op.Name.size<=1048576) (hf:1048576<F):loopF (pS_SrvOk_b1 F) F (s,s.Done,(s.Done.length:Int),0)=some (if s.Done.any fun x=> !histB x then Sum.inr false else Sum.inl s):=by
 refine loopF_any (B:=pS_SrvOk_b1 F) (fun i=>(s,s.Done,(s.Done.length:Int),(i:Int))) s.Done (fun x=> !histB x) (Sum.inr false) (Sum.inl s) rfl (fun i x hx=> ?_) (by unfold pS_SrvOk_b1;simp) (by omega)
 obtain⟨h1,h2,h3,h4,h5⟩:=idx_facts hx (by omega)
 unfold pS_SrvOk_b1
 simp only[h1,br_t,gd_t h2,h3,bd_s,pS_l22NoOp_eq,pS_OpOk_eq (hn x (qM1 hx)) hf]
 rw[<-br_if]
 unfold histB
 have hfin:∀c:Bool,(br c (some (.inr (.inr false))) (gd (inK IntKind.i64 ((i:Int)+1)) (some (.inl (s,s.Done,(s.Done.length:Int),(i:Int)+1)))):Option ((ISrv×List IHist×Int×Int)⊕(ISrv⊕Bool)))=br c (some (.inr (.inr false))) (some (.inl (s,s.Done,(s.Done.length:Int),((i+1:Nat):Int)))):=by
  intro c
  rw[h5,gd_t h4]
 cases x.Lost<;>cases zeroOpB x.Op<;>cases opB x.Op<;>first|exact hfin true|exact hfin false
structure SvF (F:Nat) (s:ISrv):Prop where
 b:SG F s.Base
 t:SG F s.St
 p:DkF (F+70) s.Dep.Disk
 d:DkF (F+70) s.Disk
 tl:s.Tab.Live.length<=1048576
 hl:s.Done.length<=1048576
 hn:∀x∈s.Done,x.Op.Name.size<=1048576
noncomputable def srvB (s:ISrv):Bool:=(stateB s.Base&&(!decide (0<(s.Base.Panes.length:Int))&&((decide (0<=s.Top)&&decide (s.Top<=400000))&&(tableOkB s.Tab&&(!(s.Done.any fun x=> !histB x)&&(decide (0<=s.Sure)&&decide (s.Sure<=(opsV s.Done:Int)))))))) &&
 br s.Up (stateB s.St&&(depotB s.Dep&&(zeroDiskB s.Disk&&(s.Dep.Seq==(opsV s.Done:Int)+1)))) (zeroStateB s.St&&(zeroDepotB s.Dep&&(diskB s.Disk&&((s.Tab.Live.length:Int)==0))))
theorem pI_SrvOk_eq {s:ISrv} (h:SvF F s):pI_SrvOk (F+70) s=some (srvB s):=by
 have hfu:=h.d.fu;have htl:=h.tl;have hhl:=h.hl
 have hops:=opsV_le s.Done
 unfold pI_SrvOk srvB
 rw[pI_StateOk_eq h.b,pI_hists_eq hhl h.hn (by omega),pI_OpsOf_eq hhl (by omega),pI_TableOk_eq (by omega) (by omega)]
 simp only[pI_within_eq,bd_s]
 cases stateB s.Base with
 | false=>rfl
 | true=>
 cases decide (0<(s.Base.Panes.length:Int))with
 | true=>rfl
 | false=>
 cases decide (0<=s.Top)&&decide (s.Top<=400000)with
 | false=>rfl
 | true=>
 cases tableOkB s.Tab with
 | false=>rfl
 | true=>
 cases s.Done.any fun x=> !histB x with
 | true=>rfl
 | false=>
 cases decide (0<=s.Sure)&&decide (s.Sure<=(opsV s.Done:Int))with
 | false=>rfl
 | true=>
  simp only[Bool.not_true,Bool.not_false,br_f,bd_s,Bool.true_and]
  cases s.Up with
  | true=>
   rw[br_t,br_t,pI_StateOk_eq h.t,pI_DepotOk_eq h.p,pI_isZeroDisk_eq h.d,pI_OpsOf_eq hhl (by omega)]
   simp only[bd_s]
   rw[gd_t (inK64 (by omega) (by omega))]
   simp only[br_and,bd_s]
  | false=>
   rw[br_f,br_f,pI_isZeroState_eq h.t.f.f.pl h.t.f.f.wl h.t.f.f.sl,pI_isZeroDepot_eq h.p,pI_DiskOk_eq h.d]
   simp only[br_and,bd_s]
theorem pS_SrvOk_eq {s:ISrv} (h:SvF F s):pS_SrvOk (F+70) s=some (srvB s):=by
 have hfu:=h.d.fu;have htl:=h.tl;have hhl:=h.hl
 have hops:=opsV_le s.Done
 unfold pS_SrvOk srvB
 rw[pS_StateOk_eq h.b,pS_OpsOf_eq hhl (by omega),pS_TableOk_eq (by omega) (by omega)]
 simp only[bd_s,lt_not s.Sure,lt_not s.Top,lt_not 0 s.Top,lt_not 0 s.Sure]
 cases stateB s.Base with
 | false=>rfl
 | true=>
 cases decide (0<(s.Base.Panes.length:Int))with
 | true=>rfl
 | false=>
 cases decide (s.Top<0)with
 | true=>rfl
 | false=>
 cases decide (400000<s.Top)with
 | true=>rfl
 | false=>
 cases tableOkB s.Tab with
 | false=>rfl
 | true=>
  simp only[Bool.not_true,Bool.not_false,br_f,bd_s,Bool.true_and,Bool.and_self]
  cases decide (s.Sure<0)with
  | true=>simp only[br_t,bd_s,Bool.not_true,Bool.false_and,Bool.and_false]
  | false=>
  cases decide ((opsV s.Done:Int)<s.Sure)with
  | true=>simp only[br_t,br_f,bd_s,Bool.not_true,Bool.not_false,Bool.false_and,Bool.and_false]
  | false=>
   simp only[br_f,bd_s,Bool.not_false,Bool.and_true,Bool.true_and]
   rw[pS_SrvOk_b1_eq hhl h.hn (by omega)]
   cases s.Done.any fun x=> !histB x with
   | true=>rfl
   | false=>
    simp only[Bool.false_eq_true,if_false,jn_l,Bool.not_false,Bool.true_and]
    cases s.Up with
    | true=>
     rw[br_t,br_t,pS_StateOk_eq h.t,pS_DepotOk_eq h.p,pS_l22NoDisk_eq,pS_OpsOf_eq hhl (by omega)]
     simp only[bd_s]
     rw[gd_t (inK64 (by omega) (by omega))]
     simp only[br_and,bd_s]
    | false=>
     rw[br_f,br_f,pS_l22NoState_eq,pS_l22NoDisk_eq,pS_DiskOk_eq h.d]
     unfold zeroDepotB
     simp only[br_and,bd_s,Bool.and_assoc]
theorem loopF_walk {V:Type} {B:V->Option (V⊕O)} (f:Nat->V) (n:Nat) (E:O) {fuel:Nat} {v:V} (hv:v=f 0) (h:∀i,i<n->B (f i)=some (.inl (f (i+1)))) (he:B (f n)=some (.inr E)) (hf:n<fuel):loopF B fuel v=some E:=by
 subst hv
 have key:∀(m i fuel:Nat),n-i=m->i<=n->m<fuel->loopF B fuel (f i)=some E:=by
  intro m
  induction m with
  | zero=>
   intro i fuel hm hi hf
   obtain rfl:i=n:=by omega
   cases fuel with
   | zero=>omega
   | succ fuel=>rw[loopF,he]
  | succ m ih=>
   intro i fuel hm hi hf
   cases fuel with
   | zero=>omega
   | succ fuel=>
    rw[loopF,h i (by omega)]
    exact ih (i+1) fuel (by omega) (by omega) (by omega)
 exact key n 0 fuel (by omega) (by omega) hf
end Go.Px

/- What a call may hold, as plain values and a store: a small machine over them, the functions of this program as its contracts, and the plain laws: texts QR1 to QK. -/
import Derived.Test.YtoinimaobnbimaaGreatDoorQD
set_option linter.unusedSimpArgs false
set_option linter.unusedVariables false
set_option linter.constructorNameAsVariable false
namespace Go.Px
def runeBytes (r:Int):List UInt8:=
 if showsB r then(if r<128 then [UInt8.ofNat r.toNat]else if r<2048 then [UInt8.ofNat (192+r / 64).toNat,UInt8.ofNat (128+r % 64).toNat]
  else [UInt8.ofNat (224+r / 4096).toNat,UInt8.ofNat (128+r / 64 % 64).toNat,UInt8.ofNat (128+r % 64).toNat])else []
theorem showsB_iff (r:Int):showsB r=true↔(32≤r∧r≤126)∨(160≤r∧r≤65535∧(r<55296∨57343<r)):=by
 unfold showsB
 simp only[Bool.or_eq_true,Bool.and_eq_true,decide_eq_true_eq,Bool.not_eq_true',Bool.and_eq_false_iff,decide_eq_false_iff_not]
 omega
theorem u8wrap {v:Int} (h1:0≤v) (h2:v≤255):IntKind.u8.wrap v=v:=by
 show v % 256=v
 omega
theorem pS_RuneBytes_eq (fuel:Nat) (r:Int):pS_RuneBytes fuel r=some (runeBytes r):=by
 unfold pS_RuneBytes runeBytes
 simp only[pS_Shows_eq,bd_s]
 cases hs:showsB r with
 | false=>rfl
 | true=>
  have h:=(showsB_iff r).1 hs
  have e1:r.tdiv 64=r / 64:=Int.tdiv_eq_ediv_of_nonneg (by omega)
  have e2:r.tmod 64=r % 64:=Int.tmod_eq_emod_of_nonneg (by omega)
  have e3:r.tdiv 4096=r / 4096:=Int.tdiv_eq_ediv_of_nonneg (by omega)
  have e4:(r / 64).tmod 64=r / 64 % 64:=Int.tmod_eq_emod_of_nonneg (by omega)
  simp only[Bool.not_true,br_f,if_true,e1,e2,e3,e4]
  by_cases h1:r<128
  ·rw[qT1 h1,br_t,if_pos h1,u8wrap (by omega) (by omega)]
  rw[qF1 h1,br_f,if_neg h1]
  by_cases h2:r<2048
  ·rw[qT1 h2,br_t,if_pos h2,gd_t (by omega),gd_t (inK64 (by omega) (by omega)),gd_t (inK64 (by omega) (by omega)),gd_t (by omega),gd_t (inK64 (by omega) (by omega)),u8wrap (by omega) (by omega),u8wrap (by omega) (by omega)]
  rw[qF1 h2,br_f,if_neg h2,gd_t (by omega),gd_t (inK64 (by omega) (by omega)),gd_t (inK64 (by omega) (by omega)),gd_t (by omega),gd_t (inK64 (by omega) (by omega)),gd_t (by omega),gd_t (inK64 (by omega) (by omega)),gd_t (by omega),gd_t (inK64 (by omega) (by omega)),u8wrap (by omega) (by omega),u8wrap (by omega) (by omega),u8wrap (by omega) (by omega)]
def run1 (x:UInt8):Int:=x.toNat
def run2 (x y:UInt8):Int:=(x.toNat-192)*64+y.toNat-128
def run3 (x y z:UInt8):Int:=(((x.toNat:Int)-224)*64+y.toNat-128)*64+z.toNat-128
def runeRead:List UInt8→Int×Int
 | []=>(0,0)
 | x::t=>if runeBytes (run1 x)=[x]then(run1 x,1)else match t with
  | []=>(0,0)
  | y::t=>if runeBytes (run2 x y)=[x,y]then(run2 x y,2)else match t with
   | []=>(0,0)
   | z::_=>if runeBytes (run3 x y z)=[x,y,z]then(run3 x y z,3)else(0,0)
theorem u8_lt (x:UInt8):(x.toNat:Int)<256:=by
 have:=x.toNat_lt
 omega
theorem ofNat_eq {n:Nat} {x:UInt8} (h:n<256):UInt8.ofNat n=x↔n=x.toNat:=by
 constructor
 ·rintro rfl
  exact(UInt8.toNat_ofNat_of_lt' h).symm
 ·rintro rfl
  exact UInt8.ofNat_toNat
theorem run1_iff (x:UInt8):runeBytes (run1 x)=[x]↔32≤x.toNat∧x.toNat≤126:=by
 have hx:=u8_lt x
 unfold runeBytes run1
 cases hs:showsB x.toNat with
 | false=>
  have:=(not_congr (showsB_iff x.toNat)).1 (by rw[hs];simp)
  simp
  omega
 | true=>
  have:=(showsB_iff x.toNat).1 hs
  by_cases h1:(x.toNat:Int)<128
  ·simp[h1];omega
  ·simp[h1]
   split<;>simp<;>omega
theorem run2_iff (x y:UInt8):runeBytes (run2 x y)=[x,y]↔194≤x.toNat∧x.toNat≤223∧128≤y.toNat∧y.toNat≤191∧(x.toNat=194→160≤y.toNat):=by
 have hx:=u8_lt x
 have hy:=u8_lt y
 unfold runeBytes run2
 generalize hr:(x.toNat-192:Int)*64+y.toNat-128=r
 cases hs:showsB r with
 | false=>
  have:=(not_congr (showsB_iff r)).1 (by rw[hs];simp)
  simp
  omega
 | true=>
  have:=(showsB_iff r).1 hs
  by_cases h1:r<128
  ·simp[h1];omega
  by_cases h2:r<2048
  ·simp only[h1,h2,if_true,if_false,List.cons.injEq,and_true]
   rw[ofNat_eq (by omega),ofNat_eq (by omega)]
   omega
  ·simp[h1,h2];omega
theorem run3_iff (x y z:UInt8):runeBytes (run3 x y z)=[x,y,z]↔224≤x.toNat∧x.toNat≤239∧128≤y.toNat∧y.toNat≤191∧128≤z.toNat∧z.toNat≤191∧(x.toNat=224→160≤y.toNat)∧(x.toNat=237→y.toNat<160):=by
 have hx:=u8_lt x
 have hy:=u8_lt y
 have hz:=u8_lt z
 unfold runeBytes run3
 generalize hr:(((x.toNat:Int)-224)*64+y.toNat-128)*64+z.toNat-128=r
 cases hs:showsB r with
 | false=>
  have:=(not_congr (showsB_iff r)).1 (by rw[hs];simp)
  simp
  omega
 | true=>
  have:=(showsB_iff r).1 hs
  by_cases h1:r<128
  ·simp[h1];omega
  by_cases h2:r<2048
  ·simp[h1,h2];omega
  ·simp only[h1,h2,if_true,if_false,List.cons.injEq,and_true]
   rw[ofNat_eq (by omega),ofNat_eq (by omega),ofNat_eq (by omega)]
   omega
theorem inK_i64 {v:Int} (h1: -9223372036854775808≤v) (h2:v≤9223372036854775807):inK .i64 v:=(wrap_iff .i64 v).2 ⟨h1,h2⟩
theorem gd_i64 {β:Type} {v:Int} {x:Option β} (h1: -9223372036854775808≤v) (h2:v≤9223372036854775807):gd (inK .i64 v) x=x:=gd_t (inK_i64 h1 h2) x
theorem gd_ix {β:Type} {a b:Int} {x:Option β} (h1:0≤a) (h2:a<b):gd (0≤a∧a<b) x=x:=gd_t ⟨h1,h2⟩ x
theorem gd_ixe {β:Type} {a b:Int} {x:Option β} (h1:0≤a) (h2:a≤b):gd (0≤a∧a≤b) x=x:=gd_t ⟨h1,h2⟩ x
theorem ba_eq {a b:List UInt8}:(ByteArray.mk a.toArray=ByteArray.mk b.toArray)↔a=b:=by
 constructor
 ·intro h
  have:=congrArg (fun x=>x.data.toList) h
  simpa using this
 ·rintro rfl;rfl
theorem rr_inner1 (F:Nat) (l:List UInt8) (r:Int):loopF (pS_RuneRead_b2 F) (F+1) (l,0,1,r,1)=some (l,0,1,r):=by
 simp[loopF,pS_RuneRead_b2,br]
theorem rr_step (F:Nat) (l:List UInt8) (n r i:Int) (y:UInt8) (hi:0≤i) (hin:i<n) (hn:n≤3) (hy:l[i.toNat]?=some y) (h1: -100000≤r) (h2:r≤100000):pS_RuneRead_b2 F (l,0,n,r,i)=some (.inl (l,0,n,r*64+y.toNat-128,i+1)):=by
 have hy8:=u8_lt y
 have hl:=(qS1.1 hy).1
 unfold pS_RuneRead_b2
 simp only[Int.zero_add,qT1 hin,br_t,hy,bd_s]
 rw[gd_i64 (by omega) (by omega),gd_i64 (by omega) (by omega),gd_ix (by omega) (by omega),gd_i64 (by omega) (by omega),gd_i64 (by omega) (by omega),gd_i64 (by omega) (by omega)]
theorem rr_end (F:Nat) (l:List UInt8) (n r:Int):pS_RuneRead_b2 F (l,0,n,r,n)=some (.inr (l,0,n,r)):=by
 simp[pS_RuneRead_b2,br]
theorem rr_inner2 (F:Nat) (x y:UInt8) (t:List UInt8) {r:Int} (h1: -1000≤r) (h2:r≤1000):loopF (pS_RuneRead_b2 F) (F+2) (x::y::t,0,2,r,1)=some (x::y::t,0,2,r*64+y.toNat-128):=by
 rw[loopF,rr_step F _ 2 r 1 y (by omega) (by omega) (by omega) rfl (by omega) (by omega)]
 simp only[loopF]
 rw[show(1:Int)+1=2 from rfl,rr_end]
theorem rr_inner3 (F:Nat) (x y z:UInt8) (t:List UInt8) {r:Int} (h1: -1000≤r) (h2:r≤1000):loopF (pS_RuneRead_b2 F) (F+3) (x::y::z::t,0,3,r,1)=some (x::y::z::t,0,3,(r*64+y.toNat-128)*64+z.toNat-128):=by
 have hy8:=u8_lt y
 rw[loopF,rr_step F _ 3 r 1 y (by omega) (by omega) (by omega) rfl (by omega) (by omega)]
 simp only[loopF]
 rw[show(1:Int)+1=2 from rfl,rr_step F _ 3 _ 2 z (by omega) (by omega) (by omega) rfl (by omega) (by omega)]
 simp only
 rw[show(2:Int)+1=3 from rfl,rr_end]
theorem rr_outer (F:Nat) (l:List UInt8) (n:Nat) (x:UInt8) (b r:Int) (h1:1≤n) (h3:n≤3) (hn:n≤l.length) (hl:l.length≤1000) (hx:l[0]?=some x) (hb:([0,0,192,224]:List Int)[n]?=some b) (hin:loopF (pS_RuneRead_b2 F) F (l,0,(n:Int),(x.toNat:Int)-b,1)=some (l,0,(n:Int),r)) :
  pS_RuneRead_b1 F (l,0,(n:Int))=if runeBytes r=l.take n then some (.inr (.inr (r,(n:Int))))else some (.inl (l,0,(n:Int)+1)):=by
 have hx8:=u8_lt x
 have hbb:0≤b∧b≤224:=by
  match n,hb with
  | 1,hb=>have e:some (0:Int)=some b:=hb;cases e;omega
  | 2,hb=>have e:some (192:Int)=some b:=hb;cases e;omega
  | 3,hb=>have e:some (224:Int)=some b:=hb;cases e;omega
  | 0,_=>omega
  | n+4,_=>omega
 unfold pS_RuneRead_b1
 simp only[qT1 (show(n:Int)≤3 by omega),br_t]
 rw[gd_i64 (by omega) (by omega)]
 simp only[bd_s,qT1 (show(n:Int)≤(l.length:Int)-0 by omega),br_t]
 rw[gd_ix (by omega) (by omega)]
 rw[show((0:Int).toNat)=0 from rfl,hx]
 simp only[bd_s]
 rw[gd_ix (by omega) (by show(n:Int)<((4:Nat):Int);omega),show(0+(n:Int).toNat)=n by omega,hb]
 simp only[bd_s]
 rw[gd_i64 (by omega) (by omega),hin]
 simp only[bd_s,pS_RuneBytes_eq]
 by_cases hlen:(runeBytes r).length=n
 ·have e:((runeBytes r).length:Int)==(n:Int):=by simp[hlen]
  simp only[e,br_t]
  rw[gd_i64 (by omega) (by omega),gd_ixe (by omega) (by omega),gd_ixe (by omega) (by simp)]
  simp only[bd_s,show(0+(n:Int)).toNat=n by omega,show((0:Int).toNat)=0 from rfl,List.drop_zero,ba_eq]
  by_cases he:runeBytes r=l.take n
  ·simp only[he,decide_true,br_t,if_true]
  ·simp only[he,decide_false,br_f,if_false]
   rw[gd_i64 (by omega) (by omega)]
 ·have e:(((runeBytes r).length:Int)==(n:Int))=false:=by simp;omega
  have he:runeBytes r≠l.take n:=fun e=>hlen (by rw[e,List.length_take];omega)
  simp only[e,br_f,bd_s,he,if_false]
  rw[gd_i64 (by omega) (by omega)]
theorem rr_stop (F:Nat) (l:List UInt8) (n:Nat) (hn:l.length<n) (h4:n≤4):pS_RuneRead_b1 F (l,0,(n:Int))=some (.inr (.inl ())):=by
 unfold pS_RuneRead_b1
 by_cases h:n≤3
 ·simp only[qT1 (show(n:Int)≤3 by omega),br_t]
  rw[gd_i64 (by omega) (by omega)]
  simp only[bd_s,qF1 (show¬(n:Int)≤(l.length:Int)-0 by omega),br_f]
 ·simp only[qF1 (show¬(n:Int)≤3 by omega),br_f,bd_s]
theorem rr_outer' (F:Nat) (l:List UInt8) (n:Nat) (x:UInt8) (b r:Int) (h1:1≤n) (h3:n≤3) (hn:n≤l.length) (hl:l.length≤1000) (hx:l[0]?=some x) (hb:([0,0,192,224]:List Int)[n]?=some b) (hin:loopF (pS_RuneRead_b2 F) F (l,0,(n:Int),(x.toNat:Int)-b,1)=some (l,0,(n:Int),r)) :
  (runeBytes r=l.take n→pS_RuneRead_b1 F (l,0,(n:Int))=some (.inr (.inr (r,(n:Int)))))∧(runeBytes r≠l.take n→pS_RuneRead_b1 F (l,0,(n:Int))=some (.inl (l,0,(n:Int)+1))):=by
 have h:=rr_outer F l n x b r h1 h3 hn hl hx hb hin
 exact⟨fun e=>by rw[h,if_pos e],fun e=>by rw[h,if_neg e]⟩
theorem rr_one (F:Nat) (x:UInt8) (t:List UInt8) (hl:t.length≤100):(runeBytes (run1 x)=[x]→pS_RuneRead_b1 (F+3) (x::t,0,1)=some (.inr (.inr (run1 x,1))))∧(runeBytes (run1 x)≠[x]→pS_RuneRead_b1 (F+3) (x::t,0,1)=some (.inl (x::t,0,2))):=
 rr_outer' (F+3) (x::t) 1 x 0 (run1 x) (by omega) (by omega) (by simp) (by simp;omega) rfl rfl (by
  rw[show((x.toNat:Int)-0)=run1 x by unfold run1;omega]
  exact rr_inner1 (F+2) (x::t) (run1 x))
theorem rr_two (F:Nat) (x y:UInt8) (t:List UInt8) (hl:t.length≤100):(runeBytes (run2 x y)=[x,y]→pS_RuneRead_b1 (F+3) (x::y::t,0,2)=some (.inr (.inr (run2 x y,2))))∧(runeBytes (run2 x y)≠[x,y]→pS_RuneRead_b1 (F+3) (x::y::t,0,2)=some (.inl (x::y::t,0,3))):=by
 have hx:=u8_lt x
 exact rr_outer' (F+3) (x::y::t) 2 x 192 (run2 x y) (by omega) (by omega) (by simp) (by simp;omega) rfl rfl (rr_inner2 (F+1) x y t (by omega) (by omega))
theorem rr_three (F:Nat) (x y z:UInt8) (t:List UInt8) (hl:t.length≤100):(runeBytes (run3 x y z)=[x,y,z]→pS_RuneRead_b1 (F+3) (x::y::z::t,0,3)=some (.inr (.inr (run3 x y z,3))))∧(runeBytes (run3 x y z)≠[x,y,z]→pS_RuneRead_b1 (F+3) (x::y::z::t,0,3)=some (.inl (x::y::z::t,0,4))):=by
 have hx:=u8_lt x
 exact rr_outer' (F+3) (x::y::z::t) 3 x 224 (run3 x y z) (by omega) (by omega) (by simp) (by simp;omega) rfl rfl (rr_inner3 F x y z t (by omega) (by omega))
theorem pS_RuneRead_eq (F:Nat) (l:List UInt8) (h1:1≤l.length) (h3:l.length≤100):pS_RuneRead (F+5) l 0=some (runeRead l):=by
 unfold pS_RuneRead
 simp only[qF1 (show¬(0:Int)<0 by omega),br_f,bd_s,qF1 (show¬(l.length:Int)≤0 by omega)]
 match l,h1 with
 | x::t,_=>
  have ht:t.length≤100:=by simp at h3;omega
  rw[loopF]
  by_cases c1:runeBytes (run1 x)=[x]
  ·rw[(rr_one (F+2) x t ht).1 c1,show runeRead (x::t)=(run1 x,1) by simp only[runeRead];exact if_pos c1];rfl
  rw[(rr_one (F+2) x t ht).2 c1]
  simp only
  match t,ht with
  | [],_=>
   rw[loopF,show(2:Int)=((2:Nat):Int)from rfl,rr_stop _ _ 2 (by simp) (by omega),show runeRead [x]=(0,0) by simp only[runeRead];exact if_neg c1]
   rfl
  | y::t,ht=>
   have ht':t.length≤100:=by simp at ht;omega
   rw[loopF]
   by_cases c2:runeBytes (run2 x y)=[x,y]
   ·rw[(rr_two (F+2) x y t ht').1 c2,show runeRead (x::y::t)=(run2 x y,2) by simp only[runeRead];rw[if_neg c1];exact if_pos c2];rfl
   rw[(rr_two (F+2) x y t ht').2 c2]
   simp only
   match t,ht' with
   | [],_=>
    rw[loopF,show(3:Int)=((3:Nat):Int)from rfl,rr_stop _ _ 3 (by simp) (by omega),show runeRead [x,y]=(0,0) by simp only[runeRead];rw[if_neg c1];exact if_neg c2]
    rfl
   | z::t,ht'=>
    have ht'':t.length≤100:=by simp at ht';omega
    rw[loopF]
    by_cases c3:runeBytes (run3 x y z)=[x,y,z]
    ·rw[(rr_three (F+2) x y z t ht'').1 c3,show runeRead (x::y::z::t)=(run3 x y z,3) by simp only[runeRead];rw[if_neg c1,if_neg c2];exact if_pos c3];rfl
    rw[(rr_three (F+2) x y z t ht'').2 c3,show runeRead (x::y::z::t)=(0,0) by simp only[runeRead];rw[if_neg c1,if_neg c2];exact if_neg c3]
    simp only
    have:pS_RuneRead_b1 (F+5) (x::y::z::t,0,4)=some (.inr (.inl ())):=by
     unfold pS_RuneRead_b1
     simp only[qF1 (show¬(4:Int)≤3 by omega),br_f,bd_s]
    rw[loopF,this]
    rfl
theorem read2_iff (x b:UInt8):(runeRead [x,b]).2=2↔194≤x.toNat∧x.toNat≤223∧128≤b.toNat∧b.toNat≤191∧(x.toNat=194→160≤b.toNat):=by
 simp only[runeRead]
 by_cases c1:runeBytes (run1 x)=[x]
 ·rw[if_pos c1]
  have:=(run1_iff x).1 c1
  constructor
  ·intro h;simp at h
  ·omega
 rw[if_neg c1]
 by_cases c2:runeBytes (run2 x b)=[x,b]
 ·rw[if_pos c2]
  have:=(run2_iff x b).1 c2
  exact⟨fun _=>this,fun _=>rfl⟩
 ·rw[if_neg c2]
  have:=(not_congr (run2_iff x b)).1 c2
  constructor
  ·intro h;simp at h
  ·intro h;exact absurd h this
theorem read3_iff (x y z:UInt8):(runeRead [x,y,z]).2=3↔224≤x.toNat∧x.toNat≤239∧128≤y.toNat∧y.toNat≤191∧128≤z.toNat∧z.toNat≤191∧(x.toNat=224→160≤y.toNat)∧(x.toNat=237→y.toNat<160):=by
 simp only[runeRead]
 by_cases c1:runeBytes (run1 x)=[x]
 ·rw[if_pos c1]
  have:=(run1_iff x).1 c1
  constructor
  ·intro h;simp at h
  ·omega
 rw[if_neg c1]
 by_cases c2:runeBytes (run2 x y)=[x,y]
 ·rw[if_pos c2]
  have:=(run2_iff x y).1 c2
  constructor
  ·intro h;simp at h
  ·omega
 rw[if_neg c2]
 by_cases c3:runeBytes (run3 x y z)=[x,y,z]
 ·rw[if_pos c3]
  have:=(run3_iff x y z).1 c3
  exact⟨fun _=>this,fun _=>rfl⟩
 ·rw[if_neg c3]
  have:=(not_congr (run3_iff x y z)).1 c3
  constructor
  ·intro h;simp at h
  ·intro h;exact absurd h this
def runeBeginB:List UInt8→Bool
 | [x]=>decide (194≤x.toNat∧x.toNat≤239)
 | [x,y]=>decide (224≤x.toNat∧x.toNat≤239∧128≤y.toNat∧y.toNat≤191∧(x.toNat=224→160≤y.toNat)∧(x.toNat=237→y.toNat<160))
 | _=>false
def byteN (i:Nat):UInt8:=UInt8.ofNat (IntKind.u8.wrap ((128+i:Nat):Int)).toNat
theorem byteN_nat {i:Nat} (h:i<64):(byteN i).toNat=128+i:=by
 unfold byteN
 rw[u8wrap (by omega) (by omega),Int.toNat_natCast]
 exact UInt8.toNat_ofNat_of_lt' (show 128+i<256 by omega)
theorem room_small {n:Nat} (h:n≤1000):roomB K.u8 n:=by
 refine⟨by omega,?_⟩
 show n*byt K.u8≤_
 have:byt K.u8=1:=rfl
 rw[this];omega
def hitB (l:List UInt8) (b:UInt8):Bool:=decide ((runeRead (l++ [b])).2=((l++ [b]).length:Int))||(decide (l.length=1)&&decide ((runeRead (l++ [b]++ [UInt8.ofNat (Int.toNat 129)])).2=3))
theorem rb_step (F:Nat) (l:List UInt8) (i:Nat) (hl:l.length=1∨l.length=2) (hi:i<64):pS_RuneBegin_b1 (F+5) (l,((128+i:Nat):Int))=if hitB l (byteN i)then some (.inr (.inr true))else some (.inl (l,((128+(i+1):Nat):Int))):=by
 have hl3:l.length≤2:=by omega
 unfold pS_RuneBegin_b1
 simp only[qT1 (show((128+i:Nat):Int)<192 by omega),br_t,List.nil_append]
 rw[gd_t (room_small (by omega)),gd_t (room_small (by rw[List.length_append];simp;omega))]
 rw[show UInt8.ofNat (IntKind.u8.wrap ((128+i:Nat):Int)).toNat=byteN i from rfl]
 rw[pS_RuneRead_eq F (l++ [byteN i]) (by simp) (by simp;omega)]
 simp only[bd_s]
 unfold hitB
 by_cases c1:(runeRead (l++ [byteN i])).2=((l++ [byteN i]).length:Int)
 ·simp only[show((runeRead (l++ [byteN i])).2==((l++ [byteN i]).length:Int))=true by simpa using c1,br_t,jn_r,qT1 c1,Bool.true_or,if_true]
 simp only[show((runeRead (l++ [byteN i])).2==((l++ [byteN i]).length:Int))=false by simpa using c1,br_f,qF1 c1,Bool.false_or]
 by_cases c2:l.length=1
 ·simp only[show((l.length:Int)==1)=true by simp[c2],br_t,qT1 c2,Bool.true_and]
  rw[gd_t (room_small (by simp;omega)),gd_t (room_small (by simp;omega)),pS_RuneRead_eq F _ (by simp) (by simp;omega)]
  simp only[bd_s]
  by_cases c3:(runeRead (l++ [byteN i]++ [UInt8.ofNat (Int.toNat 129)])).2=3
  ·simp only[show((runeRead (l++ [byteN i]++ [UInt8.ofNat (Int.toNat 129)])).2==3)=true by simpa using c3,br_t,jn_r,qT1 c3,if_true]
  ·simp only[show((runeRead (l++ [byteN i]++ [UInt8.ofNat (Int.toNat 129)])).2==3)=false by simpa using c3,br_f,jn_l,qF1 c3,Bool.false_eq_true,if_false]
   rw[gd_i64 (by omega) (by omega)]
   rfl
 ·simp only[show((l.length:Int)==1)=false by simp;omega,br_f,jn_l,qF1 c2,Bool.false_and,Bool.false_eq_true,if_false]
  rw[gd_i64 (by omega) (by omega)]
  rfl
theorem pS_RuneBegin_len (F:Nat) (l:List UInt8) (hl:l.length=1∨l.length=2):pS_RuneBegin (F+70) l=some ((List.range 64).any fun i=>hitB l (byteN i)):=by
 unfold pS_RuneBegin
 simp only[qF1 (show¬(l.length:Int)<1 by omega),br_f,bd_s,qF1 (show¬(2:Int)<(l.length:Int) by omega)]
 have:=loopF_any (B:=pS_RuneBegin_b1 (F+70)) (fun i=>(l,((128+i:Nat):Int))) (List.range 64) (fun i=>hitB l (byteN i)) (.inr true) (.inl ()) (fuel:=F+70) (v:=(l,128)) rfl (fun i x hx=>by
  have hi:=(qS1.1 hx).1
  have hxi:x=i:=by
   rw[List.getElem?_range (by simpa using hi)]at hx;cases hx;rfl
  subst hxi
  exact rb_step (F+65) l x hl (by simpa using hi)) (by
   rw[List.length_range]
   unfold pS_RuneBegin_b1
   simp only[qF1 (show¬((128+64:Nat):Int)<192 by omega),br_f]) (by rw[List.length_range];omega)
 rw[this]
 cases(List.range 64).any fun i=>hitB l (byteN i)<;>rfl
theorem pS_RuneBegin_eq (F:Nat) (l:List UInt8):pS_RuneBegin (F+70) l=some (runeBeginB l):=by
 match l with
 | []=>rfl
 | [x]=>
  rw[pS_RuneBegin_len F [x] (.inl rfl)]
  congr 1
  rw[Bool.eq_iff_iff,List.any_eq_true]
  have h129:(UInt8.ofNat (Int.toNat 129)).toNat=129:=rfl
  simp only[hitB,runeBeginB,Bool.or_eq_true,Bool.and_eq_true,decide_eq_true_eq,List.mem_range]
  constructor
  ·rintro⟨i,hi,h|⟨_,h⟩⟩
   ·have:=(read2_iff x (byteN i)).1 h
    omega
   ·have:=(read3_iff x (byteN i) _).1 h
    omega
  ·intro h
   by_cases h1:x.toNat≤223
   ·refine⟨32,by omega,.inl ?_⟩
    have hb:=byteN_nat (i:=32) (by omega)
    exact(read2_iff x (byteN 32)).2 ⟨by omega,by omega,by omega,by omega,by omega⟩
   ·by_cases h2:x.toNat=237
    ·refine⟨0,by omega,.inr ⟨rfl,?_⟩⟩
     have hb:=byteN_nat (i:=0) (by omega)
     exact(read3_iff x (byteN 0) _).2 ⟨by omega,by omega,by omega,by omega,by omega,by omega,by omega,by omega⟩
    ·refine⟨32,by omega,.inr ⟨rfl,?_⟩⟩
     have hb:=byteN_nat (i:=32) (by omega)
     exact(read3_iff x (byteN 32) _).2 ⟨by omega,by omega,by omega,by omega,by omega,by omega,by omega,by omega⟩
 | [x,y]=>
  rw[pS_RuneBegin_len F [x,y] (.inr rfl)]
  congr 1
  rw[Bool.eq_iff_iff,List.any_eq_true]
  simp only[hitB,runeBeginB,Bool.or_eq_true,Bool.and_eq_true,decide_eq_true_eq,List.mem_range]
  constructor
  ·rintro⟨i,hi,h|⟨h,_⟩⟩
   ·have:=(read3_iff x y (byteN i)).1 h
    omega
   ·simp at h
  ·intro h
   refine⟨0,by omega,.inl ?_⟩
   have hb:=byteN_nat (i:=0) (by omega)
   exact(read3_iff x y (byteN 0)).2 ⟨by omega,by omega,by omega,by omega,by omega,by omega,by omega,by omega⟩
 | x::y::z::t=>
  unfold pS_RuneBegin
  simp only[qF1 (show¬((x::y::z::t).length:Int)<1 by simp;omega),br_f,bd_s,qT1 (show(2:Int)<((x::y::z::t).length:Int) by simp;omega),br_t]
  rfl
theorem pI_tails_one (F:Nat) (y:UInt8):pI_tails (F+2) [y]=some (if 128≤y.toNat∧y.toNat≤191 then((y.toNat:Int)-128,true)else(0,false)):=by
 have hy:=u8_lt y
 unfold pI_tails
 rw[loopF]
 have e0:pI_tails_b1 (F+2) (0,[y],(([y]:List UInt8).length:Int),0)=if 128≤y.toNat∧y.toNat≤191 then some (.inl ((y.toNat:Int)-128,[y],1,1))else some (.inr (.inr (0,false))):=by
  unfold pI_tails_b1
  simp only[qT1 (show(0:Int)<(([y]:List UInt8).length:Int) by simp),br_t]
  rw[gd_ix (by omega) (by simp)]
  simp only[show((0:Int).toNat)=0 from rfl,List.getElem?_cons_zero,bd_s]
  rw[gd_t (by omega)]
  have hd:(y.toNat:Int).tdiv 64=(y.toNat:Int) / 64:=Int.tdiv_eq_ediv_of_nonneg (by omega)
  have hm:(y.toNat:Int).tmod 64=(y.toNat:Int) % 64:=Int.tmod_eq_emod_of_nonneg (by omega)
  rw[hd,hm,u8wrap (by omega) (by omega)]
  by_cases h:128≤y.toNat∧y.toNat≤191
  ·rw[if_pos h]
   have h2:((y.toNat:Int) / 64 !=2)=false:=by
    have:(y.toNat:Int) / 64=2:=by omega
    rw[this];rfl
   simp only[h2,br_f]
   rw[gd_i64 (by omega) (by omega),gd_t (by omega),gd_i64 (by omega) (by omega),gd_i64 (by omega) (by omega)]
   have:64*0+(y.toNat:Int) % 64=(y.toNat:Int)-128:=by omega
   rw[this]
   rfl
  ·rw[if_neg h]
   have h2:((y.toNat:Int) / 64 !=2)=true:=by
    have:(y.toNat:Int) / 64≠2:=by omega
    simpa using this
   simp only[h2,br_t]
 rw[e0]
 by_cases h:128≤y.toNat∧y.toNat≤191
 ·simp only[if_pos h]
  rw[loopF]
  unfold pI_tails_b1
  simp only[qF1 (show¬(1:Int)<1 by omega),br_f,jn_l]
 ·simp only[if_neg h,jn_r]
theorem pI_RuneBegin_eq (F:Nat) (l:List UInt8):pI_RuneBegin (F+2) l=some (runeBeginB l):=by
 match l with
 | []=>rfl
 | [x]=>
  unfold pI_RuneBegin
  simp only[show(((([x]:List UInt8).length:Nat):Int)==1)=true from rfl,br_t]
  rw[gd_ix (by omega) (by simp)]
  simp only[show((0:Int).toNat)=0 from rfl,List.getElem?_cons_zero,bd_s,pI_within_eq,runeBeginB]
  congr 1
  rw[Bool.eq_iff_iff]
  simp only[Bool.and_eq_true,decide_eq_true_eq]
  omega
 | [x,y]=>
  have hx:=u8_lt x
  have hy:=u8_lt y
  unfold pI_RuneBegin
  simp only[show(((([x,y]:List UInt8).length:Nat):Int)==1)=false from rfl,show(((([x,y]:List UInt8).length:Nat):Int)==2)=true from rfl,br_t,br_f]
  rw[gd_ixe (by omega) (by simp)]
  simp only[show List.drop (Int.toNat 1) [x,y]=[y]from rfl,pI_tails_one,bd_s]
  rw[gd_ix (by omega) (by simp)]
  simp only[show((0:Int).toNat)=0 from rfl,List.getElem?_cons_zero,bd_s,runeBeginB]
  by_cases h:128≤y.toNat∧y.toNat≤191
  ·simp only[if_pos h]
   rw[gd_i64 (by omega) (by omega),gd_i64 (by omega) (by omega),gd_i64 (by omega) (by omega),gd_i64 (by omega) (by omega)]
   simp only[br_t]
   rw[gd_ix (by omega) (by simp)]
   simp only[bd_s,pI_Shows_eq,bd_br,br_ss]
   by_cases h1:224≤(x.toNat:Int)
   ·by_cases h2:2048≤((x.toNat:Int)-224)*4096+((y.toNat:Int)-128)*64
    ·simp only[qT1 h1,qT1 h2,br_t]
     congr 1
     rw[Bool.eq_iff_iff,showsB_iff]
     simp only[decide_eq_true_eq]
     omega
    ·simp only[qT1 h1,qF1 h2,br_t,br_f]
     congr 1
     rw[Bool.eq_iff_iff]
     simp only[decide_eq_true_eq,Bool.false_eq_true,false_iff]
     omega
   ·simp only[qF1 h1,br_f]
    congr 1
    rw[Bool.eq_iff_iff]
    simp only[decide_eq_true_eq,Bool.false_eq_true,false_iff]
    omega
  ·simp only[if_neg h]
   rw[gd_i64 (by omega) (by omega),gd_i64 (by omega) (by omega),gd_i64 (by omega) (by omega),gd_i64 (by omega) (by omega)]
   simp only[br_f,bd_s]
   congr 1
   rw[Bool.eq_iff_iff]
   simp only[decide_eq_true_eq,Bool.false_eq_true,false_iff]
   omega
 | x::y::z::t=>
  unfold pI_RuneBegin
  have e1:(((x::y::z::t).length:Int)==1)=false:=by simp;omega
  have e2:(((x::y::z::t).length:Int)==2)=false:=by simp;omega
  simp only[e1,e2,br_f]
  rfl
theorem gd_p {β:Type} {p:Prop} {d:Decidable p} (h:p) (x:Option β): @gd β p d x=x:=if_pos h
theorem loopF_inv {V O:Type} {B:V→Option (V⊕O)} (I:V→Prop) (m:V→Nat) (Q:O→Prop) (h:∀v,I v→(∃v',B v=some (.inl v')∧I v'∧m v'<m v)∨∃o,B v=some (.inr o)∧Q o):∀(fuel:Nat) (v:V),I v→m v<fuel→∃o,loopF B fuel v=some o∧Q o
 | 0,v,_,hf=>by omega
 | fuel+1,v,hi,hf=>by
  unfold loopF
  rcases h v hi with⟨v',e,h1,h2⟩ |⟨o,e,h1⟩
  ·rw[e];exact loopF_inv I m Q h fuel v' h1 (by omega)
  ·rw[e];exact⟨o,rfl,h1⟩
theorem loopF_run {V O:Type} {B:V→Option (V⊕O)} (f:Nat→V) (n:Nat) (R:O) {fuel:Nat} {v:V} (hv:v=f 0) (h:∀i,i<n→B (f i)=some (.inl (f (i+1)))) (he:B (f n)=some (.inr R)) (hf:n<fuel):loopF B fuel v=some R:=by
 subst hv
 have key:∀(m fuel i:Nat),n-i=m→i≤n→m<fuel→loopF B fuel (f i)=some R:=by
  intro m
  induction m with
  | zero=>
   intro fuel i hm hi hf
   obtain rfl:i=n:=by omega
   cases fuel with
   | zero=>omega
   | succ fuel=>unfold loopF;rw[he]
  | succ m ih=>
   intro fuel i hm hi hf
   cases fuel with
   | zero=>omega
   | succ fuel=>unfold loopF;rw[h i (by omega)];exact ih fuel (i+1) (by omega) (by omega) (by omega)
 exact key n fuel 0 rfl (Nat.zero_le _) hf
theorem loopF_scan {V O:Type} {B:V→Option (V⊕O)} (f:Nat→V) (n:Nat) (bad:Nat→Bool) (R E:O) {fuel:Nat} {v:V} (hv:v=f 0) (h:∀i,i<n→B (f i)=if bad i then some (.inr R)else some (.inl (f (i+1)))) (he:B (f n)=some (.inr E)) (hf:n<fuel) :
  loopF B fuel v=some (if(List.range n).any bad then R else E):=by
 refine loopF_any f (List.range n) bad R E hv (fun i x hx=> ?_) (by rw[List.length_range];exact he) (by rw[List.length_range];exact hf)
 have hi:i<n:=by have:=(qS1.1 hx).1;simpa using this
 rw[List.getElem?_range hi]at hx
 cases hx
 exact h i hi
theorem roomB_of {k:K} {n:Nat} (h1:n≤2097152) (h2:byt k≤1000):roomB k n:=by
 refine⟨by omega,?_⟩
 have:n*byt k≤2097152*1000:=Nat.mul_le_mul h1 h2
 omega
theorem take_succ_get {α:Type} {l:List α} {i:Nat} {x:α} (h:l[i]?=some x):l.take (i+1)=l.take i++ [x]:=by
 rw[List.take_add_one,h];rfl
theorem drop_get {α:Type} {l:List α} {i:Nat} {x:α} (h:l[i]?=some x):l.drop i=x::l.drop (i+1):=by
 obtain⟨hi,e⟩:=qS1.1 h
 rw[List.drop_eq_getElem_cons hi,e]
inductive Tre where
 | leaf (x:INode)
 | node (x:INode) (a b:Tre)
def Tre.flat:Tre→List INode
 | .leaf x=> [x]
 | .node x a b=>x::(a.flat++b.flat)
def leafOk (x:INode):Bool:=(decide (1≤x.Pane)&&decide (x.Pane≤1000000))&&(!x.Down&&x.First==0)
def splitOk (x:INode):Bool:=x.Pane==0&&(decide (1≤x.First)&&decide (x.First≤120))
def Tre.ok:Tre→Prop
 | .leaf x=>x.Pane≠0∧leafOk x=true
 | .node x a b=>splitOk x=true∧a.ok∧b.ok
def prs:Nat→List INode→Option (Tre×List INode)
 | 0,_=>none
 | _+1,[]=>none
 | n+1,x::l=>if x.Pane=0 then(if splitOk x=true then(match prs n l with
   | some (a,l1)=>(match prs n l1 with
    | some (b,l2)=>some (.node x a b,l2)
    | none=>none)
   | none=>none)else none)else(if leafOk x=true then some (.leaf x,l)else none)
theorem Tre.flat_pos (T:Tre):0<T.flat.length:=by cases T<;>simp[Tre.flat]
theorem prs_sound:∀{n:Nat} {l:List INode} {T:Tre} {r:List INode},prs n l=some (T,r)→l=T.flat++r∧T.ok
 | 0,_,_,_,h=>by cases h
 | n+1,[],_,_,h=>by cases h
 | n+1,x::l,T,r,h=>by
  unfold prs at h
  split at h
  ·rename_i h0
   split at h
   ·rename_i hs
    split at h
    ·rename_i a l1 h1
     split at h
     ·rename_i b l2 h2
      cases h
      obtain⟨e1,o1⟩:=prs_sound h1
      obtain⟨e2,o2⟩:=prs_sound h2
      exact⟨by simp[Tre.flat,e1,e2],hs,o1,o2⟩
     ·cases h
    ·cases h
   ·cases h
  ·rename_i h0
   split at h
   ·rename_i hl
    cases h
    exact⟨rfl,h0,hl⟩
   ·cases h
theorem prs_complete:∀{T:Tre} {r:List INode} {n:Nat},T.ok→T.flat.length≤n→prs n (T.flat++r)=some (T,r)
 | .leaf x,r,0,_,hn=>by simp[Tre.flat]at hn
 | .leaf x,r,n+1,h,hn=>by
  show prs (n+1) (x::r)=_
  unfold prs
  rw[if_neg h.1,if_pos h.2]
 | .node x a b,r,0,_,hn=>by simp[Tre.flat]at hn
 | .node x a b,r,n+1,h,hn=>by
  have hl:(Tre.node x a b).flat.length=a.flat.length+b.flat.length+1:=by simp[Tre.flat]
  have h0:x.Pane=0:=by have:=h.1;unfold splitOk at this;simp at this;exact this.1
  show prs (n+1) (x::(a.flat++b.flat)++r)=_
  rw[List.cons_append,List.append_assoc]
  unfold prs
  rw[if_pos h0,if_pos h.1,prs_complete h.2.1 (by omega)]
  simp only
  rw[prs_complete h.2.2 (by omega)]
theorem drop_suf {α:Type} {p r t:List α} (h:t=p++r):t.drop (t.length-r.length)=r:=by
 subst h
 simp
def endV (n:Nat) (t l:List INode):Int:=match prs n l with
 | some (_,r)=>(t.length:Int)-(r.length:Int)
 | none=> -1
theorem endOf_neg (fuel n:Nat) (t:List INode):recF (pI_endOf fuel) (n+1) (t,-1)=some (-1):=by
 show pI_endOf fuel _ (t,-1)=_
 unfold pI_endOf
 simp
theorem endOf_at (fuel:Nat) (t:List INode) (ht:t.length≤1048576):∀(n at_:Nat),at_≤t.length→t.length-at_<n→recF (pI_endOf fuel) n (t,(at_:Int))=some (endV n t (t.drop at_))
 | 0,at_,_,h=>by omega
 | n+1,at_,ha,hn=>by
  show pI_endOf fuel (recF (pI_endOf fuel) n) (t,(at_:Int))=_
  have ih:∀a:Nat,a≤t.length→t.length-a<n→recF (pI_endOf fuel) n (t,(a:Int))=some (endV n t (t.drop a)):=endOf_at fuel t ht n
  have ng:0<n→recF (pI_endOf fuel) n (t,-1)=some (-1):=fun h=>by
   obtain⟨m,rfl⟩:∃m,n=m+1:=⟨n-1,by omega⟩
   exact endOf_neg fuel m t
  generalize recF (pI_endOf fuel) n=slf at ih ng⊢
  unfold pI_endOf endV
  have e1:decide ((at_:Int)<0)=false:=by simp
  simp only[e1,br_f,bd_s]
  by_cases hlt:at_<t.length
  ·have hx:t[at_]?=some t[at_]:=qE1 hlt
   obtain⟨h1,h2,h3,h4,h5⟩:=idx_facts hx (by omega)
   have e2:decide ((t.length:Int)≤(at_:Int))=false:=by simp;omega
   rw[drop_get hx]
   simp only[e2,br_f,gd_t h2,h3,bd_s]
   generalize t[at_]=x at hx
   unfold pI_Node_isLeaf
   simp only[bd_s,pI_isId_eq,pI_within_eq]
   unfold prs
   by_cases h0:x.Pane=0
   ·have e3:(x.Pane !=0)=false:=by simp[h0]
    rw[e3,if_pos h0]
    simp only[br_f]
    by_cases hs:splitOk x=true
    ·have e4:(decide (1≤x.First)&&decide (x.First≤120))=true:=by unfold splitOk at hs;simp at hs;simp[hs.2]
     rw[e4,if_pos hs]
     simp only[Bool.not_true,br_f]
     rw[h5,gd_t h4,ih (at_+1) (by omega) (by omega),bd_s]
     unfold endV
     cases hp:prs n (t.drop (at_+1))with
     | none=>
      simp only
      rw[ng (by omega),bd_s]
     | some p=>
      obtain⟨a,r1⟩:=p
      obtain⟨e5,_⟩:=prs_sound hp
      have hrl:r1.length+a.flat.length=t.length-(at_+1):=by
       have:=congrArg List.length e5;rw[List.length_drop,List.length_append]at this;omega
      have hap:=a.flat_pos
      have hdr:t.drop (t.length-r1.length)=r1:=drop_suf (p:=t.take (at_+1)++a.flat) (by rw[List.append_assoc,←e5,List.take_append_drop])
      have hcast:(t.length:Int)-(r1.length:Int)=((t.length-r1.length:Nat):Int):=by omega
      simp only
      rw[hcast,ih (t.length-r1.length) (by omega) (by omega),hdr,bd_s]
      unfold endV
      cases hq:prs n r1 with
      | none=>rfl
      | some q=>rfl
    ·have e4:(decide (1≤x.First)&&decide (x.First≤120))=false:=by
      unfold splitOk at hs
      simp only[h0,beq_self_eq_true,Bool.true_and]at hs
      simpa using hs
     rw[e4,if_neg hs]
     simp
   ·have e3:(x.Pane !=0)=true:=by simp[h0]
    rw[e3,if_neg h0]
    simp only[br_t]
    by_cases hl:leafOk x=true
    ·rw[if_pos hl]
     unfold leafOk at hl
     simp only[Bool.and_eq_true]at hl
     obtain⟨⟨p1,p2⟩,p3,p4⟩:=hl
     have p3:x.Down=false:=by simpa using p3
     have p5:(x.First !=0)=false:=by simp at p4;simp[p4]
     simp only[p1,p2,p3,p5,Bool.and_self,Bool.not_true,br_f,bd_s]
     rw[h5,gd_t h4]
     simp only[List.length_drop]
     congr 1
     omega
    ·rw[if_neg hl]
     unfold leafOk at hl
     by_cases p1:(decide (1≤x.Pane)&&decide (x.Pane≤1000000))=true
     ·rw[p1]at hl⊢
      cases hd:x.Down with
      | true=>simp
      | false=>
       rw[hd]at hl
       have p4:(x.First==0)=false:=by simpa using hl
       have p5:(x.First !=0)=true:=by simp at p4;simp[p4]
       simp[p5]
     ·have p1:(decide (1≤x.Pane)&&decide (x.Pane≤1000000))=false:=by simpa using p1
      rw[p1]
      simp
  ·obtain rfl:at_=t.length:=by omega
   have e2:decide ((t.length:Int)≤(t.length:Int))=true:=by simp
   rw[e2,List.drop_length]
   simp[prs]
def Tre.sh:Tre→Prop
 | .leaf x=>x.Pane≠0
 | .node x a b=>x.Pane=0∧a.sh∧b.sh
def cnt:Nat→List INode→Option (List INode)
 | _,[]=>none
 | k,x::l=>if x.Pane=0 then cnt (k+1) l else if k=1 then some l else cnt (k-1) l
theorem cnt_cons (k:Nat) (x:INode) (l:List INode):cnt k (x::l)=if x.Pane=0 then cnt (k+1) l else if k=1 then some l else cnt (k-1) l:=by rw[cnt]
theorem cnt_flat:∀{T:Tre} {k:Nat} {r:List INode},T.sh→1≤k→cnt k (T.flat++r)=if k=1 then some r else cnt (k-1) r
 | .leaf x,k,r,h,hk=>by
  show cnt k (x::r)=_
  rw[cnt_cons,if_neg h]
 | .node x a b,k,r,h,hk=>by
  show cnt k (x::(a.flat++b.flat)++r)=_
  rw[List.cons_append,List.append_assoc,cnt_cons,if_pos h.1,cnt_flat h.2.1 (by omega),if_neg (by omega),show k+1-1=k by omega,cnt_flat h.2.2 hk]
theorem cnt_conv:∀{l:List INode} {k:Nat} {r:List INode},1≤k→cnt k l=some r→∃Ts:List Tre,Ts.length=k∧(∀T∈Ts,T.sh)∧l=Ts.flatMap Tre.flat++r
 | [],k,r,_,h=>by cases h
 | x::l,k,r,hk,h=>by
  rw[cnt_cons]at h
  split at h
  ·rename_i h0
   obtain⟨Ts,h1,h2,h3⟩:=cnt_conv (by omega) h
   match Ts,h1 with
   | [T],h1=>simp at h1;omega
   | T1::T2::Ts,h1=>
    refine⟨.node x T1 T2::Ts,by simp at h1⊢;omega,fun T hT=> ?_,by rw[h3];simp[Tre.flat]⟩
    rcases List.mem_cons.1 hT with rfl|hT
    ·exact⟨h0,h2 _ (by simp),h2 _ (by simp)⟩
    ·exact h2 T (by simp[hT])
   | [],h1=>simp at h1
  ·rename_i h0
   split at h
   ·rename_i h1
    cases h
    exact⟨[.leaf x],by simp[h1],fun T hT=>by rw[List.mem_singleton.1 hT];exact h0,by simp[Tre.flat]⟩
   ·rename_i h1
    obtain⟨Ts,h2,h3,h4⟩:=cnt_conv (by omega) h
    refine⟨.leaf x::Ts,by simp[h2];omega,fun T hT=> ?_,by rw[h4];simp[Tre.flat]⟩
    rcases List.mem_cons.1 hT with rfl|hT
    ·exact h0
    ·exact h3 T hT
def cntV (k:Nat) (t l:List INode):Int:=match cnt k l with
 | some r=>(t.length:Int)-(r.length:Int)
 | none=> -1
theorem l13End_loop (fuel:Nat) (t:List INode) (ht:t.length≤1048576):∀(m fl i k:Nat),t.length-i=m→i≤t.length→1≤k→k+m≤10000000→m<fl→
  loopF (pS_l13End_b1 fuel) fl (t,(k:Int),(i:Int))=some (match cnt k (t.drop i)with
   | some r=> .inr ((t.length:Int)-(r.length:Int))
   | none=> .inl ())
 | m,0,_,_,_,_,_,_,h=>by omega
 | 0,fl+1,i,k,hm,hi,hk,hb,hf=>by
  obtain rfl:i=t.length:=by omega
  unfold loopF pS_l13End_b1
  rw[List.drop_length]
  simp[cnt]
 | m+1,fl+1,i,k,hm,hi,hk,hb,hf=>by
  have hlt:i<t.length:=by omega
  have hx:t[i]?=some t[i]:=qE1 hlt
  obtain⟨h1,h2,h3,h4,h5⟩:=idx_facts hx (by omega)
  have ih:=l13End_loop fuel t ht m fl (i+1)
  rw[drop_get hx]
  generalize t[i]=x at hx h3
  unfold loopF
  generalize loopF (pS_l13End_b1 fuel) fl=lf at ih⊢
  unfold pS_l13End_b1
  simp only[h1,br_t,gd_t h2,h3,bd_s]
  rw[cnt_cons]
  by_cases h0:x.Pane=0
  ·have e1:(x.Pane==0)=true:=by simp[h0]
   have e2:((k:Int)+1==0)=false:=by simp;omega
   rw[e1,if_pos h0]
   simp only[br_t]
   rw[gd_t (inK64 (by omega) (by omega)),bd_s]
   simp only[e2,br_f]
   rw[h5,gd_t h4]
   simp only
   rw[show(k:Int)+1=((k+1:Nat):Int) by omega,ih (k+1) (by omega) (by omega) (by omega) (by omega) (by omega)]
  ·have e1:(x.Pane==0)=false:=by simp[h0]
   rw[e1,if_neg h0]
   simp only[br_f]
   rw[gd_t (inK64 (by omega) (by omega)),bd_s]
   by_cases hk1:k=1
   ·have e2:((k:Int)-1==0)=true:=by simp;omega
    simp only[e2,br_t]
    rw[if_pos hk1,h5,gd_t h4]
    simp only[List.length_drop]
    congr 3
    omega
   ·have e2:((k:Int)-1==0)=false:=by simp;omega
    simp only[e2,br_f]
    rw[if_neg hk1,h5,gd_t h4]
    simp only
    rw[show(k:Int)-1=((k-1:Nat):Int) by omega,ih (k-1) (by omega) (by omega) (by omega) (by omega) (by omega)]
theorem l13End_eq {fuel:Nat} {t:List INode} {i:Nat} (ht:t.length≤1048576) (hi:i≤t.length) (hf:t.length<fuel):pS_l13End fuel t (i:Int)=some (cntV 1 t (t.drop i)):=by
 unfold pS_l13End cntV
 have:=l13End_loop fuel t ht (t.length-i) fuel i 1 rfl hi (by omega) (by omega) (by omega)
 rw[show(1:Int)=((1:Nat):Int)from rfl,this]
 cases cnt 1 (t.drop i)<;>rfl
def lvs (t:List INode):List Int:=(t.filter fun x=>x.Pane !=0).map (·.Pane)
theorem lvs_len (t:List INode):(lvs t).length≤t.length:=by unfold lvs;rw[List.length_map];exact List.length_filter_le _ _
theorem lvs_app (s t:List INode):lvs (s++t)=lvs s++lvs t:=by simp[lvs]
theorem lvs_one (x:INode):lvs [x]=if x.Pane=0 then []else [x.Pane]:=by
 unfold lvs
 by_cases h:x.Pane=0<;>simp[h]
theorem pI_leaves_eq {fuel:Nat} {t:List INode} (ht:t.length≤1048576) (hf:t.length<fuel):pI_leaves fuel t=some (lvs t):=by
 unfold pI_leaves
 have key:loopF (pI_leaves_b1 fuel) fuel ([],t,(t.length:Int),0)=some (lvs t):=by
  refine loopF_run (fun i=>(lvs (t.take i),t,(t.length:Int),(i:Int))) t.length (lvs t) rfl (fun i hi=> ?_) (by unfold pI_leaves_b1;simp) hf
  have hx:t[i]?=some t[i]:=qE1 hi
  obtain⟨h1,h2,h3,h4,h5⟩:=idx_facts hx (by omega)
  rw[take_succ_get hx,lvs_app,lvs_one]
  generalize t[i]=x at hx h3
  unfold pI_leaves_b1 pI_Node_isLeaf
  simp only[h1,br_t,gd_t h2,h3,bd_s]
  have hr:roomB K.int (lvs (t.take i)++ [x.Pane]).length:=roomB_of (by have:=lvs_len (t.take i);simp at this⊢;omega) (by decide)
  by_cases h0:x.Pane=0
  ·have e1:(x.Pane !=0)=false:=by simp[h0]
   simp only[e1,br_f,bd_s,if_pos h0,List.append_nil]
   rw[h5,gd_t h4]
  ·have e1:(x.Pane !=0)=true:=by simp[h0]
   simp only[e1,br_t,if_neg h0,gd_t hr,bd_s]
   rw[h5,gd_t h4]
 rw[key]
 rfl
theorem compact_inner (fuel k0:Nat) (l:List Int) (hl:l.length≤1048576) (hk1:1≤k0) (hk:k0<l.length) (hf:l.length<fuel):∃o,loopF (pG_slices_Compact_int_b2 fuel) fuel (l,(k0:Int),(k0,l.length-k0),1)=some o∧o.1.length=l.length∧0≤o.2∧o.2<l.length:=by
 refine loopF_inv (V:=List Int×Int×(Nat×Nat)×Int) (O:=List Int×Int) (fun v=>v.1.length=l.length∧v.2.2.1=(k0,l.length-k0)∧1≤v.2.2.2∧v.2.2.2≤((l.length-k0:Nat):Int)∧(k0:Int)≤v.2.1∧v.2.1+1≤k0+v.2.2.2) (fun v=>(((l.length-k0:Nat):Int)-v.2.2.2).toNat) (fun o=>o.1.length=l.length∧0≤o.2∧o.2<l.length) ?_ fuel _ ⟨rfl,rfl,by dsimp only;omega,by dsimp only;omega,by dsimp only;omega,by dsimp only;omega⟩ (by dsimp only;omega)
 rintro⟨v,k,⟨off,n⟩,i⟩ ⟨a1,a2,a3,a4,a5,a6⟩
 cases a2
 simp only at a1 a3 a4 a5 a6⊢
 unfold pG_slices_Compact_int_b2
 simp only
 by_cases hlt:i<((l.length-k0:Nat):Int)
 ·left
  rw[show decide (i<((l.length-k0:Nat):Int))=true by simpa using hlt]
  have hx:v[k0+i.toNat]?=some v[k0+i.toNat]!:=by
   rw[qE1 (by omega),getElem!_pos v _ (by omega)]
  have hy:v[k0+(i-1).toNat]?=some v[k0+(i-1).toNat]!:=by
   rw[qE1 (by omega),getElem!_pos v _ (by omega)]
  have hz:v[0+k.toNat]?=some v[0+k.toNat]!:=by
   rw[qE1 (by omega),getElem!_pos v _ (by omega)]
  simp only[br_t]
  rw[gd_t ⟨by omega,hlt⟩,hx,bd_s,gd_t (inK64 (by omega) (by omega)),gd_t ⟨by omega,by omega⟩,hy,bd_s]
  cases(v[k0+i.toNat]! !=v[k0+(i-1).toNat]!)with
  | true=>
   rw[br_t,gd_t ⟨by omega,hlt⟩,bd_s,gd_t ⟨by omega,by omega⟩,hz,bd_s,gd_t (inK64 (by omega) (by omega)),bd_s]
   simp only
   rw[gd_t (inK64 (by omega) (by omega))]
   exact⟨_,rfl,⟨by simp[a1],rfl,by dsimp only;omega,by dsimp only;omega,by dsimp only;omega,by dsimp only;omega⟩,by dsimp only;omega⟩
  | false=>
   rw[br_f,bd_s]
   simp only
   rw[gd_t (inK64 (by omega) (by omega))]
   exact⟨_,rfl,⟨a1,rfl,by dsimp only;omega,by dsimp only;omega,by dsimp only;omega,by dsimp only;omega⟩,by dsimp only;omega⟩
 ·right
  rw[show decide (i<((l.length-k0:Nat):Int))=false by simpa using hlt]
  exact⟨_,rfl,a1,by dsimp only;omega,by dsimp only;omega⟩
def adj (l:List Int) (i:Nat):Bool:=l[i+1]? ==l[i]?
theorem compact_len {fuel:Nat} {l:List Int} (hl:l.length≤1048576) (hf:l.length<fuel):∃r,pG_slices_Compact_int fuel l=some r∧(((r.length:Int)==(l.length:Int))= !(List.range (l.length-1)).any (adj l)):=by
 unfold pG_slices_Compact_int
 by_cases h2:l.length<2
 ·rw[show decide ((l.length:Int)<2)=true by simp;omega,br_t]
  exact⟨l,rfl,by rw[show l.length-1=0 by omega];simp⟩
 ·rw[show decide ((l.length:Int)<2)=false by simp;omega,br_f]
  have key:∀(m fl i:Nat),l.length-i=m→1≤i→i≤l.length→m<fl→fl≤fuel→(∀j,j+1<i→adj l j=false)→∃o,loopF (pG_slices_Compact_int_b1 fuel) fl (l,(i:Int))=some o∧((o= .inl l∧∀j,j+1<l.length→adj l j=false)∨∃r,o= .inr r∧r.length<l.length∧∃j,j+1<l.length∧adj l j=true):=by
   intro m
   induction m with
   | zero=>
    intro fl i hm h1 hi hfl hle hj
    obtain rfl:i=l.length:=by omega
    cases fl with
    | zero=>omega
    | succ fl=>
     unfold loopF pG_slices_Compact_int_b1
     simp only[show decide ((l.length:Int)<(l.length:Int))=false by simp,br_f]
     exact⟨_,rfl,.inl ⟨rfl,hj⟩⟩
   | succ m ih=>
    intro fl i hm h1 hi hfl hle hj
    cases fl with
    | zero=>omega
    | succ fl=>
    have hlt:i<l.length:=by omega
    have hx:l[0+(i:Int).toNat]?=some l[i]:=by rw[show 0+(i:Int).toNat=i by omega];exact qE1 hlt
    have hy:l[0+((i:Int)-1).toNat]?=some l[i-1]:=by rw[show 0+((i:Int)-1).toNat=i-1 by omega];exact qE1 (by omega)
    have hadj:adj l (i-1)=(l[i]==l[i-1]):=by
     unfold adj
     rw[show i-1+1=i by omega,qE1 hlt,qE1 (show i-1<l.length by omega)]
     simp
    have ih:=ih fl (i+1) (by omega) (by omega) (by omega) (by omega) (by omega)
    unfold loopF
    generalize loopF (pG_slices_Compact_int_b1 fuel) fl=lf at ih⊢
    unfold pG_slices_Compact_int_b1
    simp only[show decide ((i:Int)<(l.length:Int))=true by simpa using hlt,br_t]
    rw[gd_t ⟨by omega,by omega⟩,hx,bd_s,gd_t (inK64 (by omega) (by omega)),gd_t ⟨by omega,by omega⟩,hy,bd_s]
    cases he:l[i]==l[i-1]with
    | true=>
     rw[br_t,gd_t ⟨by omega,by omega⟩]
     obtain⟨o,p1,p2,p3,p4⟩:=compact_inner fuel i l hl h1 hlt hf
     rw[show(0+(i:Int).toNat,l.length-(i:Int).toNat)=(i,l.length-i) by simp,p1,bd_s]
     obtain⟨o1,o2⟩:=o
     simp only at p2 p3 p4⊢
     rw[gd_t ⟨by omega,by omega⟩,gd_t ⟨by omega,by omega⟩]
     refine⟨_,rfl,.inr ⟨_,rfl,?_,i-1,by omega,by rw[hadj,he]⟩⟩
     rw[List.length_take];omega
    | false=>
     rw[br_f,gd_t (inK64 (by omega) (by omega))]
     simp only
     rw[show(i:Int)+1=((i+1:Nat):Int) by omega]
     exact ih fun j hj2=>by
      by_cases hji:j=i-1
      ·rw[hji,hadj,he]
      ·exact hj j (by omega)
  obtain⟨o,p1,p2⟩:=key (l.length-1) fuel 1 rfl (by omega) (by omega) (by omega) (Nat.le_refl _) (fun j hj=>by omega)
  rw[show(1:Int)=((1:Nat):Int)from rfl,p1]
  rcases p2 with⟨rfl,h3⟩ |⟨r,rfl,h3,j,h4,h5⟩
  ·refine⟨l,rfl,?_⟩
   rw[show(List.range (l.length-1)).any (adj l)=false from List.any_eq_false.2 fun j hj=>by rw[h3 j (by have:=List.mem_range.1 hj;omega)];simp]
   simp
  ·refine⟨r,rfl,?_⟩
   rw[show(List.range (l.length-1)).any (adj l)=true from List.any_eq_true.2 ⟨j,List.mem_range.2 (by omega),h5⟩]
   simp;omega
theorem sorted_adj:∀{l:List Int},l.Pairwise (·≤·)→((List.range (l.length-1)).any (adj l)=false↔l.Nodup)
 | [],_=>by simp
 | [x],_=>by simp
 | x::y::l,h=>by
  have ih:=sorted_adj (l:=y::l) (List.pairwise_cons.1 h).2
  have e:(List.range ((x::y::l).length-1)).any (adj (x::y::l))=((y==x)||(List.range ((y::l).length-1)).any (adj (y::l))):=by
   rw[show(x::y::l).length-1=((y::l).length-1)+1 by simp,List.range_succ_eq_map,List.any_cons,List.any_map]
   congr 1
  rw[e,Bool.or_eq_false_iff,ih,List.nodup_cons (a:=x)]
  constructor
  ·rintro⟨h1,h2⟩
   refine⟨fun hm=> ?_,h2⟩
   have h1:y≠x:=by simpa using h1
   rcases List.mem_cons.1 hm with rfl|hm
   ·exact h1 rfl
   ·have q1:=(List.pairwise_cons.1 h).1 y (by simp)
    have q2:=(List.pairwise_cons.1 (List.pairwise_cons.1 h).2).1 x hm
    omega
  ·rintro⟨h1,h2⟩
   refine⟨?_,h2⟩
   have:y≠x:=fun e=>h1 (by simp[e])
   simpa using this
theorem sort_ok {l:List Int} (hl:l.length≤1048576):pG_slices_Sort_int l=some (l.mergeSort fun x y=>decide (x≤y)):=by
 unfold pG_slices_Sort_int
 exact gd_t (by omega) _
theorem sort_pw (l:List Int):(l.mergeSort fun x y=>decide (x≤y)).Pairwise (·≤·):=by
 have:=List.pairwise_mergeSort (le:=fun(x y:Int)=>decide (x≤y)) (fun a b c h1 h2=>by simp at h1 h2⊢;omega) (fun a b=>by simp;omega) l
 exact this.imp fun h=>by simpa using h
def treeP (t:List INode):Prop:=t.length≤31∧(∃T:Tre,t=T.flat∧T.ok)∧(lvs t).Nodup
open Classical in
noncomputable def treeB (t:List INode):Bool:=decide (treeP t)
theorem treeB_iff {t:List INode}:treeB t=true↔treeP t:=by unfold treeB;simp
theorem eq_treeB {t:List INode} {b:Bool} (h:b=true↔treeP t):b=treeB t:=by rw[Bool.eq_iff_iff,treeB_iff];exact h
theorem endV_iff {n:Nat} {t:List INode} (hn:t.length≤n):endV n t t=(t.length:Int)↔∃T:Tre,t=T.flat∧T.ok:=by
 unfold endV
 constructor
 ·intro h
  cases hp:prs n t with
  | none=>rw[hp]at h;simp only at h;omega
  | some p=>
   obtain⟨T,r⟩:=p
   rw[hp]at h
   simp only at h
   obtain⟨e,ho⟩:=prs_sound hp
   have:r=[]:=List.eq_nil_of_length_eq_zero (by omega)
   subst this
   exact⟨T,by simpa using e,ho⟩
 ·rintro⟨T,e,ho⟩
  have:=prs_complete (r:=[]) (n:=n) ho (by rw[←e];exact hn)
  rw[List.append_nil,←e]at this
  rw[this]
  simp
theorem pI_TreeOk_eq {fuel:Nat} {t:List INode} (hf:2*t.length+100<fuel):pI_TreeOk fuel t=some (treeB t):=by
 unfold pI_TreeOk
 by_cases h31:t.length≤31
 ·have e1:decide ((31:Int)<(t.length:Int))=false:=by simp;omega
  have he:=endOf_at fuel t (by omega) fuel 0 (by omega) (by omega)
  rw[List.drop_zero]at he
  rw[show((0:Nat):Int)=0 from rfl]at he
  rw[e1,br_f,he,bd_s,bd_s]
  simp only
  by_cases hE:endV fuel t t=(t.length:Int)
  ·rw[show(endV fuel t t !=(t.length:Int))=false by simp[hE],br_f,pI_leaves_eq (by omega) (by omega),bd_s]
   have hl:=lvs_len t
   have hml:((lvs t).mergeSort fun x y=>decide (x≤y)).length=(lvs t).length:=List.length_mergeSort ..
   rw[sort_ok (by omega),bd_s,clone_int (roomB_of (by omega) (by decide)),bd_s]
   obtain⟨r,h1,h2⟩:=compact_len (fuel:=fuel) (l:=(lvs t).mergeSort fun x y=>decide (x≤y)) (by omega) (by omega)
   rw[h1,bd_s]
   rw[hml]at h2
   rw[h2]
   congr 1
   refine eq_treeB ?_
   have hs:=sorted_adj (sort_pw (lvs t))
   rw[hml]at hs
   rw[Bool.not_eq_true',hs,(List.mergeSort_perm (lvs t) _).nodup_iff]
   exact⟨fun h=>⟨h31,(endV_iff (by omega)).1 hE,h⟩,fun h=>h.2.2⟩
  ·rw[show(endV fuel t t !=(t.length:Int))=true by simp[hE],br_t]
   congr 1
   exact eq_treeB ⟨fun h=>(by cases h),fun h=>absurd ((endV_iff (by omega)).2 h.2.1) hE⟩
 ·have e1:decide ((31:Int)<(t.length:Int))=true:=by simp;omega
  rw[e1,br_t,bd_s]
  simp only[br_t]
  congr 1
  exact eq_treeB ⟨fun h=>(by cases h),fun h=>absurd h.1 h31⟩
def nodeOk (x:INode):Bool:=leafOk x||splitOk x
theorem leafOk_ne {x:INode} (h:leafOk x=true):x.Pane≠0:=by
 unfold leafOk at h
 simp only[Bool.and_eq_true,decide_eq_true_eq]at h
 omega
theorem splitOk_eq {x:INode} (h:splitOk x=true):x.Pane=0:=by
 unfold splitOk at h
 simp only[Bool.and_eq_true,beq_iff_eq]at h
 exact h.1
theorem ok_sh:∀{T:Tre},T.ok→T.sh∧∀x∈T.flat,nodeOk x=true
 | .leaf x,h=>⟨h.1,fun y hy=>by rw[List.mem_singleton.1 hy];unfold nodeOk;rw[h.2];rfl⟩
 | .node x a b,h=>by
  obtain⟨a1,a2⟩:=ok_sh h.2.1
  obtain⟨b1,b2⟩:=ok_sh h.2.2
  refine⟨⟨splitOk_eq h.1,a1,b1⟩,fun y hy=> ?_⟩
  rcases List.mem_cons.1 hy with rfl|hy
  ·unfold nodeOk;rw[h.1];simp
  ·rcases List.mem_append.1 hy with hy|hy
   ·exact a2 y hy
   ·exact b2 y hy
theorem sh_ok:∀{T:Tre},T.sh→(∀x∈T.flat,nodeOk x=true)→T.ok
 | .leaf x,h,hn=>by
  have:=hn x (by simp[Tre.flat])
  unfold nodeOk at this
  rw[Bool.or_eq_true]at this
  rcases this with h1|h1
  ·exact⟨h,h1⟩
  ·exact absurd (splitOk_eq h1) h
 | .node x a b,h,hn=>by
  have:=hn x (by simp[Tre.flat])
  unfold nodeOk at this
  rw[Bool.or_eq_true]at this
  rcases this with h1|h1
  ·exact absurd h.1 (leafOk_ne h1)
  ·exact⟨h1,sh_ok h.2.1 fun y hy=>hn y (by simp[Tre.flat,hy]),sh_ok h.2.2 fun y hy=>hn y (by simp[Tre.flat,hy])⟩
theorem cntV_iff {t:List INode}:cntV 1 t t=(t.length:Int)↔∃T:Tre,t=T.flat∧T.sh:=by
 unfold cntV
 constructor
 ·intro h
  cases hp:cnt 1 t with
  | none=>rw[hp]at h;simp only at h;omega
  | some r=>
   rw[hp]at h
   simp only at h
   obtain⟨Ts,h1,h2,h3⟩:=cnt_conv (Nat.le_refl 1) hp
   have:r=[]:=List.eq_nil_of_length_eq_zero (by omega)
   subst this
   match Ts,h1 with
   | [T],_=>exact⟨T,by simpa using h3,h2 T (by simp)⟩
 ·rintro⟨T,e,hs⟩
  have:=cnt_flat (r:=[]) hs (Nat.le_refl 1)
  rw[List.append_nil,←e,if_pos rfl]at this
  rw[this]
  simp
def badB (t:List INode) (i:Nat):Bool:=match t[i]? with
 | some x=> !nodeOk x||(leafOk x&&(lvs (t.take i)).any fun y=>y==x.Pane)
 | none=>false
theorem bad_iff {t:List INode} (hn:∀x∈t,nodeOk x=true):∀n,n≤t.length→((List.range n).any (badB t)=false↔(lvs (t.take n)).Nodup)
 | 0,_=>by simp[lvs]
 | n+1,h=>by
  have hlt:n<t.length:=by omega
  have hx:t[n]?=some t[n]:=qE1 hlt
  have ih:=bad_iff hn n (by omega)
  have hxm:t[n]∈t:=List.getElem_mem hlt
  rw[List.range_succ,List.any_append,Bool.or_eq_false_iff,ih,take_succ_get hx,lvs_app,lvs_one,List.any_cons,List.any_nil,Bool.or_false]
  unfold badB
  rw[hx]
  have hno:=hn _ hxm
  generalize t[n]=x at hno
  simp only[hno,Bool.not_true,Bool.false_or]
  by_cases h0:x.Pane=0
  ·rw[if_pos h0,List.append_nil]
   have:leafOk x=false:=by
    cases hl:leafOk x with
    | false=>rfl
    | true=>exact absurd h0 (leafOk_ne hl)
   rw[this]
   simp
  ·have hl:leafOk x=true:=by
    unfold nodeOk at hno
    rw[Bool.or_eq_true]at hno
    exact hno.resolve_right fun h=>h0 (splitOk_eq h)
   rw[if_neg h0,hl,Bool.true_and,List.any_eq_false,List.nodup_append]
   constructor
   ·rintro⟨h1,h2⟩
    exact⟨h1,by simp,fun y hy z hz e=>h2 y hy (by rw[List.mem_singleton.1 hz]at e;simp[e])⟩
   ·rintro⟨h1,_,h2⟩
    exact⟨h1,fun y hy e=>h2 y hy x.Pane (by simp) (by simpa using e)⟩
theorem badB_false_node {t:List INode} (h:(List.range t.length).any (badB t)=false):∀x∈t,nodeOk x=true:=fun x hx=>by
 obtain⟨i,hi⟩:=List.getElem?_of_mem hx
 have hlt:=(qS1.1 hi).1
 have:=List.any_eq_false.1 h i (List.mem_range.2 hlt)
 unfold badB at this
 rw[hi]at this
 simp only[Bool.not_eq_true,Bool.or_eq_false_iff,Bool.not_eq_false']at this
 exact this.1
theorem br4 {α:Type} (f:Bool→α) (a b d e:Bool):br a (br b (br d (some (f e)) (some (f false))) (some (f false))) (some (f false))=some (f ((a&&b)&&(d&&e))):=by cases a<;>cases b<;>cases d<;>rfl
theorem br3 {α:Type} (f:Bool→α) (a b e:Bool):br a (br b (some (f e)) (some (f false))) (some (f false))=some (f (a&&(b&&e))):=by cases a<;>cases b<;>rfl
theorem pS_TreeOk_step {fuel:Nat} {t:List INode} (ht:t.length≤1048576) (hf:t.length<fuel) {i:Nat} (hi:i<t.length):pS_TreeOk_b1 fuel (lvs (t.take i),t,(t.length:Int),(i:Int))=if badB t i then some (.inr (.inr false))else some (.inl (lvs (t.take (i+1)),t,(t.length:Int),((i+1:Nat):Int))):=by
 have hx:t[i]?=some t[i]:=qE1 hi
 obtain⟨h1,h2,h3,h4,h5⟩:=idx_facts hx (by omega)
 have hll:(lvs (t.take i)).length≤i:=by have:=lvs_len (t.take i);rw[List.length_take]at this;omega
 rw[take_succ_get hx,lvs_app,lvs_one]
 have hb:badB t i=(!nodeOk t[i]||(leafOk t[i]&&(lvs (t.take i)).any fun y=>y==t[i].Pane)):=by unfold badB;rw[hx]
 rw[hb]
 generalize t[i]=x at hx h3
 have hhas:pS_l02HasInt fuel (lvs (t.take i)) x.Pane=some ((lvs (t.take i)).any fun y=>y==x.Pane):=hasInt_eq (by omega) (by omega)
 have hr:roomB K.int (lvs (t.take i)++ [x.Pane]).length:=roomB_of (by simp;omega) (by decide)
 unfold pS_TreeOk_b1
 simp only[h1,br_t,gd_t h2,h3,bd_s]
 have q1:leafOk x=(decide (1≤x.Pane)&&decide (x.Pane≤1000000)&&(!x.Down&&x.First==0)):=rfl
 have q2:splitOk x=(x.Pane==0&&(decide (1≤x.First)&&decide (x.First≤120))):=rfl
 have k1:=br4 (fun z=>(x,lvs (t.take i),z,t,(t.length:Int),(i:Int))) (decide (1≤x.Pane)) (decide (x.Pane≤1000000)) (!x.Down) (x.First==0)
 have k2:=br3 (fun z=>(x,lvs (t.take i),leafOk x,z,t,(t.length:Int),(i:Int))) (x.Pane==0) (decide (1≤x.First)) (decide (x.First≤120))
 rw[k1,←q1,bd_s]
 dsimp only
 rw[k2,←q2,bd_s]
 dsimp only
 unfold nodeOk
 cases hl:leafOk x with
 | true=>
  have h0:=leafOk_ne hl
  have hs:splitOk x=false:=by
   cases hs:splitOk x with
   | false=>rfl
   | true=>exact absurd (splitOk_eq hs) h0
  simp only[br_t,br_f,bd_s,Bool.not_true,hhas,hs,Bool.or_false,Bool.false_or,Bool.true_and]
  cases(lvs (t.take i)).any fun y=>y==x.Pane with
  | true=>simp
  | false=>
   simp only[br_f,br_t,gd_t hr,jn_l]
   rw[h5,gd_t h4,if_neg h0]
   simp
 | false=>
  cases hs:splitOk x with
  | true=>
   have h0:=splitOk_eq hs
   simp only[br_t,br_f,bd_s,Bool.not_false,Bool.not_true,jn_l,Bool.false_or,Bool.false_and]
   rw[h5,gd_t h4,if_pos h0]
   simp
  | false=>simp
theorem pS_TreeOk_eq {fuel:Nat} {t:List INode} (hf:2*t.length+100<fuel):pS_TreeOk fuel t=some (treeB t):=by
 unfold pS_TreeOk
 by_cases h31:t.length≤31
 ·have e1:decide ((31:Int)<(t.length:Int))=false:=by simp;omega
  have he:=l13End_eq (fuel:=fuel) (t:=t) (i:=0) (by omega) (by omega) (by omega)
  rw[List.drop_zero]at he
  rw[show((0:Nat):Int)=0 from rfl]at he
  rw[e1,br_f,he,bd_s,bd_s]
  simp only
  by_cases hE:cntV 1 t t=(t.length:Int)
  ·rw[show(cntV 1 t t !=(t.length:Int))=false by simp[hE],br_f]
   have hsc:loopF (pS_TreeOk_b1 fuel) fuel ([],t,(t.length:Int),0)=some (if(List.range t.length).any (badB t)then .inr false else .inl ()):=
    loopF_scan (fun i=>(lvs (t.take i),t,(t.length:Int),(i:Int))) t.length (badB t) _ _ rfl (fun i hi=>pS_TreeOk_step (by omega) (by omega) hi) (by unfold pS_TreeOk_b1;simp) (by omega)
   rw[hsc]
   have hb:(!(List.range t.length).any (badB t))=treeB t:=by
    refine eq_treeB ?_
    rw[Bool.not_eq_true']
    constructor
    ·intro h
     have hn:=badB_false_node h
     obtain⟨T,e,hs⟩:=cntV_iff.1 hE
     refine⟨h31,⟨T,e,sh_ok hs fun x hx=>hn x (by rw[e];exact hx)⟩,?_⟩
     have:=(bad_iff hn t.length (Nat.le_refl _)).1 h
     rwa[List.take_length]at this
    ·rintro⟨_,⟨T,e,ho⟩,hd⟩
     refine(bad_iff (fun x hx=>(ok_sh ho).2 x (by rw[←e];exact hx)) t.length (Nat.le_refl _)).2 ?_
     rwa[List.take_length]
   rw[←hb]
   cases(List.range t.length).any (badB t)<;>rfl
  ·rw[show(cntV 1 t t !=(t.length:Int))=true by simp[hE],br_t]
   congr 1
   refine eq_treeB ⟨fun h=>(by cases h),fun h=> ?_⟩
   obtain⟨T,e,ho⟩:=h.2.1
   exact absurd (cntV_iff.2 ⟨T,e,(ok_sh ho).1⟩) hE
 ·have e1:decide ((31:Int)<(t.length:Int))=true:=by simp;omega
  rw[e1,br_t,bd_s]
  simp only[br_t]
  congr 1
  exact eq_treeB ⟨fun h=>(by cases h),fun h=>absurd h.1 h31⟩
abbrev Qd:=Int×Int×Int×Int
def mn (f n:Int):Int:=if n-2<f then n-2 else f
def f1 (x:INode) (q:Qd):Qd:=if x.Down=true then(q.1,q.2.1,q.2.2.1,mn x.First q.2.2.2)else(q.1,q.2.1,mn x.First q.2.2.1,q.2.2.2)
def f2 (x:INode) (q:Qd):Qd:=if x.Down=true then(q.1,q.2.1+mn x.First q.2.2.2+1,q.2.2.1,q.2.2.2-mn x.First q.2.2.2-1)else(q.1+mn x.First q.2.2.1+1,q.2.1,q.2.2.1-mn x.First q.2.2.1-1,q.2.2.2)
def room (x:INode) (q:Qd):Bool:=decide (3≤if x.Down=true then q.2.2.2 else q.2.2.1)
def mkR (p:Int) (q:Qd):IRect:=IRect.mk p q.1 q.2.1 q.2.2.1 q.2.2.2
def rq (r:IRect):Qd:=(r.X,r.Y,r.W,r.H)
def Tre.fits:Tre→Qd→Bool
 | .leaf _,_=>true
 | .node x a b,q=>room x q&&(a.fits (f1 x q)&&b.fits (f2 x q))
def Tre.all:Tre→Qd→List IRect
 | .leaf x,q=> [mkR x.Pane q]
 | .node x a b,q=>mkR x.Pane q::(a.all (f1 x q)++b.all (f2 x q))
def Tre.lf:Tre→Qd→List IRect
 | .leaf x,q=> [mkR x.Pane q]
 | .node x a b,q=>a.lf (f1 x q)++b.lf (f2 x q)
def qOk (q:Qd):Prop:=0≤q.1∧0≤q.2.1∧1≤q.2.2.1∧1≤q.2.2.2∧q.1+q.2.2.1≤1000∧q.2.1+q.2.2.2≤1000
theorem qOk_part {x:INode} {q:Qd} (h:qOk q) (hr:room x q=true) (hf:1≤x.First):qOk (f1 x q)∧qOk (f2 x q):=by
 obtain⟨X,Y,W,H⟩:=q
 unfold qOk at h
 unfold room at hr
 simp only[decide_eq_true_eq]at hr h
 unfold qOk f1 f2 mn
 cases hd:x.Down with
 | true=>
  rw[hd]at hr
  simp only[if_true]at hr⊢
  split<;>omega
 | false=>
  rw[hd]at hr
  simp only[if_false,Bool.false_eq_true]at hr⊢
  split<;>omega
theorem mn_bounds {f n:Int} (h1:1≤f) (h2:f≤120) (h3:1≤n) (h4:n≤1000): -1≤mn f n∧mn f n≤120:=by
 unfold mn;split<;>omega
theorem splitOk_first {x:INode} (h:splitOk x=true):1≤x.First∧x.First≤120:=by
 unfold splitOk at h
 simp only[Bool.and_eq_true,decide_eq_true_eq]at h
 exact h.2
theorem partsOf_eq (fuel:Nat) {x:INode} {r:IRect} (hq:qOk (rq r)) (h1:1≤x.First) (h2:x.First≤120):pI_partsOf fuel x r=some (mkR r.Pane (f1 x (rq r)),mkR r.Pane (f2 x (rq r)),room x (rq r)):=by
 obtain⟨P,X,Y,W,H⟩:=r
 unfold qOk rq at hq
 simp only at hq
 have bH:=mn_bounds h1 h2 hq.2.2.2.1 (show H≤1000 by omega)
 have bW:=mn_bounds h1 h2 hq.2.2.1 (show W≤1000 by omega)
 unfold pI_partsOf mkR f1 f2 room rq mn
 unfold mn at bH bW
 cases hd:x.Down with
 | true=>
  simp only[br_t,bd_s,hd,if_true]
  rw[gd_p (inK64 (by omega) (by omega)),gd_p (inK64 (by omega) (by omega)),gd_p (inK64 (by omega) (by omega)),gd_p (inK64 (by omega) (by omega)),gd_p (inK64 (by omega) (by omega)),bd_s]
 | false=>
  simp only[br_f,bd_s,hd,if_false,Bool.false_eq_true]
  rw[gd_p (inK64 (by omega) (by omega)),gd_p (inK64 (by omega) (by omega)),gd_p (inK64 (by omega) (by omega)),gd_p (inK64 (by omega) (by omega)),gd_p (inK64 (by omega) (by omega)),bd_s]
theorem drop_node {t rest:List INode} {x:INode} {a b:Tre} {i:Nat} (h:t.drop i=(Tre.node x a b).flat++rest):t[i]?=some x∧t.drop (i+1)=a.flat++(b.flat++rest)∧t.drop (i+1+a.flat.length)=b.flat++rest∧i+1+a.flat.length+b.flat.length≤t.length:=by
 have h:t.drop i=x::(a.flat++(b.flat++rest)):=by rw[h];simp[Tre.flat]
 have e1:t[i]?=some x:=by
  have:(t.drop i)[0]?=some x:=by rw[h];rfl
  rwa[List.getElem?_drop,Nat.add_zero]at this
 have e2:t.drop (i+1)=a.flat++(b.flat++rest):=by
  have:=drop_get e1
  rw[h]at this
  exact(List.cons.inj this).2.symm
 have e3:t.drop (i+1+a.flat.length)=b.flat++rest:=by
  rw[←List.drop_drop,e2,List.drop_left]
 refine⟨e1,e2,e3,?_⟩
 have hi:=(qS1.1 e1).1
 have:=congrArg List.length e2
 simp only[List.length_drop,List.length_append]at this
 omega
theorem drop_leaf {t rest:List INode} {x:INode} {i:Nat} (h:t.drop i=(Tre.leaf x).flat++rest):t[i]?=some x:=by
 have:(t.drop i)[0]?=some x:=by rw[h];rfl
 rwa[List.getElem?_drop,Nat.add_zero]at this
theorem end_at {fuel:Nat} {t rest:List INode} {a:Tre} {i:Nat} (ht:t.length≤1048576) (hf:2*t.length+100<fuel) (ha:a.ok) (h:t.drop i=a.flat++rest) (hi:i≤t.length) :
  recF (pI_endOf fuel) fuel (t,(i:Int))=some ((i+a.flat.length:Nat):Int)∧pS_l13End fuel t (i:Int)=some ((i+a.flat.length:Nat):Int):=by
 have hl:=congrArg List.length h
 simp only[List.length_drop,List.length_append]at hl
 constructor
 ·rw[endOf_at fuel t ht fuel i hi (by omega)]
  unfold endV
  rw[h,prs_complete ha (by omega)]
  simp only
  congr 1
  omega
 ·rw[l13End_eq ht hi (by omega)]
  unfold cntV
  rw[h,cnt_flat (ok_sh ha).1 (Nat.le_refl 1),if_pos rfl]
  simp only
  congr 1
  omega
theorem put_at (fuel:Nat) (t:List INode) (ht:t.length≤1048576) (hf:2*t.length+100<fuel):∀(T:Tre) (n i:Nat) (rest:List INode) (r:IRect) (out:List IRect),T.ok→t.drop i=T.flat++rest→T.flat.length≤n→qOk (rq r)→out.length+T.flat.length≤1048600→
  ∃o,recF (pI_areasOf_1 fuel) n ((i:Int),r,t,out,true,())=some (t,o,T.fits (rq r),())∧(T.fits (rq r)=true→o=out++T.all (rq r))∧o.length≤out.length+T.flat.length
 | .leaf x,0,i,rest,r,out,ho,hd,hn,hq,hb=>by simp[Tre.flat]at hn
 | .leaf x,n+1,i,rest,r,out,ho,hd,hn,hq,hb=>by
  have hx:=drop_leaf hd
  obtain⟨h1,h2,h3,h4,h5⟩:=idx_facts hx (by omega)
  have hl:(Tre.leaf x).flat.length=1:=rfl
  rw[hl]at hb
  have hr:roomB K.iRect (out++ [IRect.mk x.Pane r.X r.Y r.W r.H]).length:=roomB_of (by simp;omega) (by decide)
  have e1:(x.Pane !=0)=true:=by simpa using ho.1
  refine⟨out++ [IRect.mk x.Pane r.X r.Y r.W r.H],?_,fun _=>rfl,by simp[Tre.flat]⟩
  show pI_areasOf_1 fuel (recF (pI_areasOf_1 fuel) n) _=_
  generalize recF (pI_areasOf_1 fuel) n=slf
  unfold pI_areasOf_1 pI_Node_isLeaf
  simp only[gd_t h2,h3,bd_s,gd_t hr,e1,br_t]
  rfl
 | .node x a b,0,i,rest,r,out,ho,hd,hn,hq,hb=>by simp[Tre.flat]at hn
 | .node x a b,n+1,i,rest,r,out,ho,hd,hn,hq,hb=>by
  obtain⟨hx,hd1,hd2,hle⟩:=drop_node hd
  obtain⟨h1,h2,h3,h4,h5⟩:=idx_facts hx (by omega)
  have hl:(Tre.node x a b).flat.length=a.flat.length+b.flat.length+1:=by simp[Tre.flat]
  rw[hl]at hb hn
  have hr:roomB K.iRect (out++ [IRect.mk x.Pane r.X r.Y r.W r.H]).length:=roomB_of (by simp;omega) (by decide)
  have h0:=splitOk_eq ho.1
  obtain⟨hf1,hf2⟩:=splitOk_first ho.1
  have e1:(x.Pane !=0)=false:=by simp[h0]
  have hpo:=partsOf_eq fuel (x:=x) (r:=IRect.mk x.Pane r.X r.Y r.W r.H) hq hf1 hf2
  have iha:=put_at fuel t ht hf a n (i+1) (b.flat++rest) (mkR x.Pane (f1 x (rq r))) (out++ [IRect.mk x.Pane r.X r.Y r.W r.H]) ho.2.1 hd1 (by omega)
  have ihb:=fun o=>put_at fuel t ht hf b n (i+1+a.flat.length) rest (mkR x.Pane (f2 x (rq r))) o ho.2.2 hd2 (by omega)
  have hend:=(end_at (fuel:=fuel) (i:=i+1) ht hf ho.2.1 hd1 (by omega)).1
  rw[hl]
  unfold Tre.fits
  show∃o,pI_areasOf_1 fuel (recF (pI_areasOf_1 fuel) n) _=_∧_
  generalize recF (pI_areasOf_1 fuel) n=slf at iha ihb⊢
  unfold pI_areasOf_1 pI_Node_isLeaf
  simp only[gd_t h2,h3,bd_s,gd_t hr,e1,br_f,Bool.not_true]
  rw[hpo,bd_s]
  simp only
  have erq:rq (IRect.mk x.Pane r.X r.Y r.W r.H)=rq r:=rfl
  rw[erq]
  cases hro:room x (rq r)with
  | false=>
   simp only[Bool.not_false,br_t,Bool.false_and]
   exact⟨_,rfl,fun h=>(by cases h),by simp⟩
  | true=>
   obtain⟨q1,q2⟩:=qOk_part hq hro hf1
   simp only[Bool.not_true,br_f,Bool.true_and]
   rw[h5,gd_t h4]
   obtain⟨oa,a1,a2,a3⟩:=iha q1 (by simp;omega)
   have erf:rq (mkR x.Pane (f1 x (rq r)))=f1 x (rq r):=rfl
   have erg:rq (mkR x.Pane (f2 x (rq r)))=f2 x (rq r):=rfl
   rw[erf]at a1 a2
   rw[a1,bd_s]
   simp only
   simp only[List.length_append,List.length_singleton]at a3
   cases hfa:a.fits (f1 x (rq r))with
   | false=>
    simp only[br_f,Bool.false_and]
    exact⟨oa,rfl,fun h=>(by cases h),by omega⟩
   | true=>
    simp only[br_t,Bool.true_and]
    rw[gd_t h4,hend,bd_s]
    obtain⟨ob,b1,b2,b3⟩:=ihb oa q2 (by omega)
    rw[erg]at b1 b2
    rw[b1,bd_s]
    refine⟨ob,rfl,fun h=> ?_,by omega⟩
    rw[b2 h,a2 hfa]
    simp[Tre.all,mkR,rq]
theorem place_at (fuel:Nat) (t:List INode) (ht:t.length≤1048576) (hf:2*t.length+100<fuel):∀(T:Tre) (n i:Nat) (rest:List INode) (r:IRect),T.ok→t.drop i=T.flat++rest→T.flat.length≤n→qOk (rq r)→
  ∃l,recF (pS_l13Place fuel) n (t,(i:Int),r)=some (l,T.fits (rq r))∧(T.fits (rq r)=true→l=T.lf (rq r))∧l.length≤T.flat.length
 | .leaf x,0,i,rest,r,ho,hd,hn,hq=>by simp[Tre.flat]at hn
 | .leaf x,n+1,i,rest,r,ho,hd,hn,hq=>by
  have hx:=drop_leaf hd
  obtain⟨h1,h2,h3,h4,h5⟩:=idx_facts hx (by omega)
  have e1:decide (0<x.Pane)=true:=by
   have:=ho.2
   unfold leafOk at this
   simp only[Bool.and_eq_true,decide_eq_true_eq]at this
   simp;omega
  refine⟨[IRect.mk x.Pane r.X r.Y r.W r.H],?_,fun _=>rfl,by simp[Tre.flat]⟩
  show pS_l13Place fuel (recF (pS_l13Place fuel) n) _=_
  generalize recF (pS_l13Place fuel) n=slf
  unfold pS_l13Place
  simp only[gd_t h2,h3,bd_s,e1,br_t]
  rfl
 | .node x a b,0,i,rest,r,ho,hd,hn,hq=>by simp[Tre.flat]at hn
 | .node x a b,n+1,i,rest,r,ho,hd,hn,hq=>by
  obtain⟨hx,hd1,hd2,hle⟩:=drop_node hd
  obtain⟨h1,h2,h3,h4,h5⟩:=idx_facts hx (by omega)
  have hl:(Tre.node x a b).flat.length=a.flat.length+b.flat.length+1:=by simp[Tre.flat]
  rw[hl]at hn
  have h0:=splitOk_eq ho.1
  obtain⟨hf1,hf2⟩:=splitOk_first ho.1
  have e1:decide (0<x.Pane)=false:=by simp[h0]
  have iha:=place_at fuel t ht hf a n (i+1) (b.flat++rest) (mkR r.Pane (f1 x (rq r))) ho.2.1 hd1 (by omega)
  have ihb:=place_at fuel t ht hf b n (i+1+a.flat.length) rest (mkR r.Pane (f2 x (rq r))) ho.2.2 hd2 (by omega)
  have hend:=(end_at (fuel:=fuel) (i:=i+1) ht hf ho.2.1 hd1 (by omega)).2
  rw[hl]
  have erf:rq (mkR r.Pane (f1 x (rq r)))=f1 x (rq r):=rfl
  have erg:rq (mkR r.Pane (f2 x (rq r)))=f2 x (rq r):=rfl
  rw[erf]at iha
  rw[erg]at ihb
  unfold Tre.fits
  show∃l,pS_l13Place fuel (recF (pS_l13Place fuel) n) _=_∧_
  generalize recF (pS_l13Place fuel) n=slf at iha ihb⊢
  generalize hle:pS_l13End fuel=le at hend
  unfold pS_l13Place pS_l13First
  rw[hle]
  simp only[gd_t h2,h3,bd_s,e1,br_f]
  have parts:∀K:IRect×IRect×List INode×Int→Option (List IRect×Bool),jn (V:=IRect×IRect×List INode×Int) (
    br x.Down (br (decide (r.H<3)) (some (.inr ([],false))) (bd (gd (inK IntKind.i64 (r.H-2)) (br (decide (r.H-2<x.First)) (gd (inK IntKind.i64 (r.H-2)) (some (r.H-2))) (some x.First))) fun x5=>
     gd (inK IntKind.i64 (r.Y+x5)) (gd (inK IntKind.i64 (r.Y+x5+1)) (gd (inK IntKind.i64 (r.H-x5)) (gd (inK IntKind.i64 (r.H-x5-1)) (some (.inl (IRect.mk r.Pane r.X r.Y r.W x5,IRect.mk r.Pane r.X (r.Y+x5+1) r.W (r.H-x5-1),t,(i:Int)))))))))
    (br (decide (r.W<3)) (some (.inr ([],false))) (bd (gd (inK IntKind.i64 (r.W-2)) (br (decide (r.W-2<x.First)) (gd (inK IntKind.i64 (r.W-2)) (some (r.W-2))) (some x.First))) fun x6=>
     gd (inK IntKind.i64 (r.X+x6)) (gd (inK IntKind.i64 (r.X+x6+1)) (gd (inK IntKind.i64 (r.W-x6)) (gd (inK IntKind.i64 (r.W-x6-1)) (some (.inl (IRect.mk r.Pane r.X r.Y x6 r.H,IRect.mk r.Pane (r.X+x6+1) r.Y (r.W-x6-1) r.H,t,(i:Int)))))))))) K
    = if room x (rq r)=true then K (mkR r.Pane (f1 x (rq r)),mkR r.Pane (f2 x (rq r)),t,(i:Int))else some ([],false):=by
   intro K
   obtain⟨P,X,Y,W,H⟩:=r
   unfold qOk rq at hq
   simp only at hq
   have fst:∀n:Int,1≤n→n≤1000→gd (inK IntKind.i64 (n-2)) (br (decide (n-2<x.First)) (gd (inK IntKind.i64 (n-2)) (some (n-2))) (some x.First))=some (mn x.First n):=by
    intro n hn1 hn2
    rw[gd_t (inK64 (by omega) (by omega)),gd_t (inK64 (by omega) (by omega))]
    unfold mn
    by_cases hc:n-2<x.First
    ·simp[hc]
    ·simp[hc]
   have bH:=mn_bounds hf1 hf2 hq.2.2.2.1 (show H≤1000 by omega)
   have bW:=mn_bounds hf1 hf2 hq.2.2.1 (show W≤1000 by omega)
   simp only[fst H (by omega) (by omega),fst W (by omega) (by omega),bd_s]
   unfold mkR f1 f2 room rq
   simp only
   cases hdn:x.Down with
   | true=>
    simp only[br_t,if_true]
    by_cases h3:H<3
    ·rw[show decide (H<3)=true by simpa using h3,br_t,if_neg (by simp;omega)];rfl
    ·rw[show decide (H<3)=false by simpa using h3,br_f,gd_t (inK64 (by omega) (by omega)),gd_t (inK64 (by omega) (by omega)),gd_t (inK64 (by omega) (by omega)),gd_t (inK64 (by omega) (by omega)),jn_l,if_pos (by simp;omega)]
   | false=>
    simp only[br_f,if_false,Bool.false_eq_true]
    by_cases h3:W<3
    ·rw[show decide (W<3)=true by simpa using h3,br_t,if_neg (by simp;omega)];rfl
    ·rw[show decide (W<3)=false by simpa using h3,br_f,gd_t (inK64 (by omega) (by omega)),gd_t (inK64 (by omega) (by omega)),gd_t (inK64 (by omega) (by omega)),gd_t (inK64 (by omega) (by omega)),jn_l,if_pos (by simp;omega)]
  rw[parts]
  cases hro:room x (rq r)with
  | false=>
   simp only[Bool.false_eq_true,if_false,Bool.false_and]
   exact⟨[],rfl,fun h=>(by cases h),by simp⟩
  | true=>
   obtain⟨q1,q2⟩:=qOk_part hq hro hf1
   simp only[if_true,Bool.true_and]
   rw[h5,gd_t h4]
   obtain⟨la,a1,a2,a3⟩:=iha q1
   obtain⟨lb,b1,b2,b3⟩:=ihb q2
   rw[a1,bd_s]
   simp only
   rw[gd_t h4,hend,bd_s,b1,bd_s]
   simp only
   rw[gd_t (roomB_of (by simp;omega) (by decide))]
   have hlen:(la++lb).length≤a.flat.length+b.flat.length+1:=by simp;omega
   cases hfa:a.fits (f1 x (rq r))with
   | false=>
    simp only[br_f,bd_s,Bool.false_and]
    exact⟨_,rfl,fun h=>(by cases h),hlen⟩
   | true=>
    simp only[br_t,bd_s,Bool.true_and]
    exact⟨_,rfl,fun h=>by rw[a2 hfa,b2 h];rfl,hlen⟩
instance:Inhabited IRect:=⟨IRect.mk 0 0 0 0 0⟩
theorem all_lf:∀{T:Tre} {q:Qd},T.ok→(T.all q).filter (fun r=> !(r.Pane==0))=T.lf q
 | .leaf x,q,h=>by
  have e:(mkR x.Pane q).Pane≠0:=h.1
  show [mkR x.Pane q].filter _=[mkR x.Pane q]
  simp[e]
 | .node x a b,q,h=>by
  have e:(mkR x.Pane q).Pane=0:=splitOk_eq h.1
  show(mkR x.Pane q::(a.all (f1 x q)++b.all (f2 x q))).filter _=a.lf (f1 x q)++b.lf (f2 x q)
  rw[List.filter_cons]
  simp only[e,beq_self_eq_true,Bool.not_true,Bool.false_eq_true,if_false,List.filter_append]
  rw[all_lf h.2.1,all_lf h.2.2]
theorem all_len:∀(T:Tre) (q:Qd),(T.all q).length=T.flat.length
 | .leaf x,q=>rfl
 | .node x a b,q=>by simp[Tre.all,Tre.flat,all_len a,all_len b]
theorem deleteFunc_eq {fuel:Nat} {l:List IRect} (hl:l.length≤1048600) (hf:l.length<fuel):pG_slices_DeleteFunc_IRect_I_Places_1 fuel l=some (l.filter fun r=> !(r.Pane==0)):=by
 unfold pG_slices_DeleteFunc_IRect_I_Places_1 pG_slices_IndexFunc_IRect_I_Places_1
 rcases loopF_find (B:=pG_slices_IndexFunc_IRect_I_Places_1_b1 fuel) (fun i=>(l,(l.length:Int),(i:Int))) l (fun x=>x.Pane==0) (fun i=> .inr (i:Int)) (.inl ()) (fuel:=fuel) (v:=(l,(l.length:Int),0)) rfl (fun i x hx=>by
  obtain⟨h1,h2,h3,h4,h5⟩:=idx_facts hx (by omega)
  unfold pG_slices_IndexFunc_IRect_I_Places_1_b1 pI_Places_1
  simp only[h1,br_t,gd_t h2,h3,bd_s,h5,gd_t h4]
  cases x.Pane==0<;>rfl) (by
  unfold pG_slices_IndexFunc_IRect_I_Places_1_b1
  simp) hf with⟨i,x,h1,h2,h3,h4⟩ |⟨h1,h2⟩
 ·have hi:=(qS1.1 h1).1
  rw[h4]
  simp only[jn_r,bd_s]
  rw[show((i:Int)== -1)=false by simp,br_f,gd_t (inK64 (by omega) (by omega))]
  have hfirst:l.take i=(l.take (i+1)).filter fun r=> !(r.Pane==0):=by
   rw[take_succ_get h1,List.filter_append]
   have e1:(l.take i).filter (fun r=> !(r.Pane==0))=l.take i:=List.filter_eq_self.2 fun y hy=>by
    obtain⟨j,hj⟩:=List.getElem?_of_mem hy
    have hji:j<i:=by have:=(qS1.1 hj).1;simp at this;omega
    rw[List.getElem?_take,if_pos hji]at hj
    rw[h3 j y hji hj];rfl
   rw[e1]
   simp[h2]
  obtain⟨o,p1,p2,p3,p4,p5⟩:=loopF_inv (V:=List IRect×Int×Int) (O:=List IRect×Int) (B:=pG_slices_DeleteFunc_IRect_I_Places_1_b1 fuel)
   (fun v=>v.1.length=l.length∧0≤v.2.1∧v.2.1<v.2.2∧v.2.2≤(l.length:Int)∧v.1.take v.2.1.toNat=(l.take v.2.2.toNat).filter (fun r=> !(r.Pane==0))∧v.1.drop v.2.2.toNat=l.drop v.2.2.toNat)
   (fun v=>((l.length:Int)-v.2.2).toNat) (fun o=>o.1.length=l.length∧0≤o.2∧o.2≤(l.length:Int)∧o.1.take o.2.toNat=l.filter (fun r=> !(r.Pane==0))) (by
    rintro⟨v,k,j⟩ ⟨a1,a2,a3,a4,a5,a6⟩
    simp only at a1 a2 a3 a4 a5 a6⊢
    unfold pG_slices_DeleteFunc_IRect_I_Places_1_b1
    simp only
    by_cases hlt:j<(l.length:Int)
    ·left
     rw[show decide (j<(v.length:Int))=true by simp;omega,br_t,gd_t ⟨by omega,by omega⟩]
     have hjl:l[j.toNat]?=some l[j.toNat]!:=by rw[qE1 (by omega),getElem!_pos l _ (by omega)]
     have hjv:v[0+j.toNat]?=some l[j.toNat]!:=by
      rw[←hjl,Nat.zero_add]
      have e1:=List.getElem?_drop (xs:=v) (i:=j.toNat) (j:=0)
      have e2:=List.getElem?_drop (xs:=l) (i:=j.toNat) (j:=0)
      rw[a6]at e1
      rw[Nat.add_zero]at e1 e2
      rw[←e1,←e2]
     have hkv:v[0+k.toNat]?=some v[k.toNat]!:=by rw[Nat.zero_add,qE1 (by omega),getElem!_pos v _ (by omega)]
     have hd:v.drop (j+1).toNat=l.drop (j+1).toNat:=by
      have e:(j+1).toNat=j.toNat+1:=by omega
      rw[e,←List.drop_drop,←List.drop_drop,a6]
     have ht:l.take (j+1).toNat=l.take j.toNat++ [l[j.toNat]!]:=by
      rw[show(j+1).toNat=j.toNat+1 by omega,take_succ_get hjl]
     rw[hjv,bd_s]
     unfold pI_Places_1
     rw[bd_s]
     generalize l[j.toNat]! = x9 at *
     cases hx9:(x9.Pane==0)with
     | true=>
      simp only[Bool.not_true,br_f,bd_s]
      rw[gd_t (inK64 (by omega) (by omega))]
      refine⟨_,rfl,⟨a1,a2,by dsimp only;omega,by dsimp only;omega,?_,hd⟩,by dsimp only;omega⟩
      dsimp only
      rw[ht,List.filter_append,←a5]
      simp[hx9]
     | false=>
      simp only[Bool.not_false,br_t]
      rw[gd_t ⟨by omega,by omega⟩,hkv,bd_s,gd_t (inK64 (by omega) (by omega)),bd_s]
      simp only
      rw[gd_t (inK64 (by omega) (by omega))]
      refine⟨_,rfl,⟨by simp[a1],by dsimp only;omega,by dsimp only;omega,by dsimp only;omega,?_,?_⟩,by dsimp only;omega⟩
      ·dsimp only
       rw[ht,List.filter_append,←a5,show(k+1).toNat=k.toNat+1 by omega,Nat.zero_add]
       have hset:(v.set k.toNat x9)[k.toNat]?=some x9:=by rw[List.getElem?_set_self (by omega)]
       rw[take_succ_get hset,List.take_set_of_le (Nat.le_refl _)]
       simp[hx9]
      ·dsimp only
       rw[Nat.zero_add,List.drop_set_of_lt (by omega)]
       exact hd
    ·right
     rw[show decide (j<(v.length:Int))=false by simp;omega,br_f]
     refine⟨_,rfl,a1,a2,by dsimp only;omega,?_⟩
     dsimp only
     rw[a5,List.take_of_length_le (by omega)]) fuel (l,(i:Int),(i:Int)+1) ⟨rfl,by dsimp only;omega,by dsimp only;omega,by dsimp only;omega,by
      dsimp only
      rw[show((i:Int)+1).toNat=i+1 by omega,show(i:Int).toNat=i by omega]
      exact hfirst,rfl⟩ (by dsimp only;omega)
  rw[p1,bd_s]
  obtain⟨v,k⟩:=o
  simp only at p2 p3 p4 p5⊢
  rw[gd_t ⟨by omega,by omega⟩,gd_t ⟨by omega,by omega⟩]
  congr 1
  rw[←p5,Nat.sub_zero,List.drop_zero,Nat.zero_add]
  unfold putL
  rw[List.append_assoc,List.take_append_of_le_length (by rw[List.length_take];omega),List.take_take,Nat.min_self]
 ·rw[h2]
  simp only[jn_l,bd_s]
  rw[show((-1:Int)== -1)=true by rfl,br_t]
  congr 1
  exact(List.filter_eq_self.2 fun y hy=>by rw[h1 y hy];rfl).symm
def noR:IRect:=IRect.mk 0 0 0 0 0
noncomputable def placesV (t:List INode) (w h:Int):List IRect×Bool:=if treeB t=true∧(1≤w∧w≤120)∧1≤h∧h≤120 then(match prs t.length t with
 | some (T,_)=>if T.fits (0,0,w,h)=true then(T.lf (0,0,w,h),true)else([],false)
 | none=>([],false))else([],false)
theorem placesV_tree {t:List INode} (h:treeB t=true):∃T:Tre,t=T.flat∧T.ok∧prs t.length t=some (T,[]):=by
 obtain⟨_,⟨T,e,ho⟩,_⟩:=treeB_iff.1 h
 have:=prs_complete (r:=[]) (n:=t.length) ho (by rw[←e];exact Nat.le_refl _)
 rw[List.append_nil,←e]at this
 exact⟨T,e,ho,this⟩
theorem pI_Places_eq {fuel:Nat} {t:List INode} {w h:Int} (hf:2*t.length+100<fuel):pI_Places fuel t w h=some (placesV t w h):=by
 unfold pI_Places pI_places pI_areasOf placesV
 rw[pI_TreeOk_eq hf,bd_s,pI_within_eq,pI_within_eq]
 cases ht:treeB t with
 | false=>simp
 | true=>
  simp only[Bool.not_true,br_f,bd_s]
  by_cases hw:1≤w∧w≤120
  ·rw[show(decide (1≤w)&&decide (w≤120))=true by simp[hw.1,hw.2]]
   by_cases hh:1≤h∧h≤120
   ·rw[show(decide (1≤h)&&decide (h≤120))=true by simp[hh.1,hh.2],if_pos ⟨trivial,hw,hh⟩]
    obtain⟨T,e,ho,hp⟩:=placesV_tree ht
    have hl31:=(treeB_iff.1 ht).1
    rw[hp]
    simp only[Bool.not_true,br_f,bd_s]
    obtain⟨o,h1,h2,h3⟩:=put_at fuel t (by omega) hf T fuel 0 [] (IRect.mk 0 0 0 w h) [] ho (by rw[List.drop_zero,List.append_nil];exact e) (by rw[←e];omega) (by unfold qOk rq;simp only;omega) (by rw[←e];simp;omega)
    rw[show((0:Nat):Int)=0 from rfl,show rq (IRect.mk 0 0 0 w h)=(0,0,w,h)from rfl]at h1
    rw[show rq (IRect.mk 0 0 0 w h)=(0,0,w,h)from rfl]at h2
    rw[h1,bd_s]
    simp only[bd_s]
    cases hfit:T.fits (0,0,w,h)with
    | false=>simp
    | true=>
     have e2:=h2 hfit
     rw[List.nil_append]at e2
     subst e2
     simp only[Bool.not_true,br_f,if_true]
     rw[deleteFunc_eq (by rw[all_len,←e];omega) (by rw[all_len,←e];omega),bd_s,all_lf ho]
   ·rw[show(decide (1≤h)&&decide (h≤120))=false by rw[Bool.and_eq_false_iff];simp;omega,if_neg (by omega)]
    simp
  ·rw[show(decide (1≤w)&&decide (w≤120))=false by rw[Bool.and_eq_false_iff];simp;omega,if_neg (by omega)]
   simp
theorem pS_Places_eq {fuel:Nat} {t:List INode} {w h:Int} (hf:2*t.length+100<fuel):pS_Places fuel t w h=some (placesV t w h):=by
 unfold pS_Places placesV
 rw[pS_TreeOk_eq hf,bd_s]
 cases ht:treeB t with
 | false=>simp
 | true=>
  simp only[Bool.not_true,br_f]
  by_cases hw:1≤w∧w≤120
  ·by_cases hh:1≤h∧h≤120
   ·rw[show decide (w<1)=false by simp;omega,show decide (120<w)=false by simp;omega,show decide (h<1)=false by simp;omega,show decide (120<h)=false by simp;omega,if_pos ⟨trivial,hw,hh⟩]
    obtain⟨T,e,ho,hp⟩:=placesV_tree ht
    have hl31:=(treeB_iff.1 ht).1
    rw[hp]
    simp only[br_f,bd_s]
    obtain⟨l,h1,h2,h3⟩:=place_at fuel t (by omega) hf T fuel 0 [] (IRect.mk 0 0 0 w h) ho (by rw[List.drop_zero,List.append_nil];exact e) (by rw[←e];omega) (by unfold qOk rq;simp only;omega)
    rw[show((0:Nat):Int)=0 from rfl,show rq (IRect.mk 0 0 0 w h)=(0,0,w,h)from rfl]at h1
    rw[show rq (IRect.mk 0 0 0 w h)=(0,0,w,h)from rfl]at h2
    rw[h1,bd_s]
    simp only
    cases hfit:T.fits (0,0,w,h)with
    | false=>simp
    | true=>
     rw[h2 hfit]
     simp
   ·rw[if_neg (by omega)]
    by_cases hw1:h<1
    ·simp[hw1,show¬w<1 by omega,show¬120<w by omega]
    ·simp[hw1,show 120<h by omega,show¬w<1 by omega,show¬120<w by omega]
  ·rw[if_neg (by omega)]
   by_cases hw1:w<1
   ·simp[hw1]
   ·simp[hw1,show 120<w by omega]
theorem lf_len:∀(T:Tre) (q:Qd),(T.lf q).length≤T.flat.length
 | .leaf x,q=>Nat.le_refl _
 | .node x a b,q=>by have:=lf_len a (f1 x q);have:=lf_len b (f2 x q);simp[Tre.lf,Tre.flat];omega
theorem placesV_len (t:List INode) (w h:Int):(placesV t w h).1.length≤t.length:=by
 unfold placesV
 split
 ·rename_i hc
  obtain⟨T,e,ho,hp⟩:=placesV_tree hc.1
  rw[hp]
  simp only
  split
  ·rw[e];exact lf_len T _
  ·exact Nat.zero_le _
 ·exact Nat.zero_le _
noncomputable def placeOfV (t:List INode) (w h p:Int):IRect×Bool:=match(placesV t w h).1.find? (fun r=>r.Pane==p)with
 | some r=>(r,true)
 | none=>(noR,false)
theorem find_at {α:Type} {l:List α} {q:α→Bool} {i:Nat} {x:α} (h1:l[i]?=some x) (h2:q x=true) (h3:∀(j:Nat) y,j<i→l[j]?=some y→q y=false):l.find? q=some x:=by
 obtain⟨hi,e⟩:=qS1.1 h1
 have:l.find? q=some l[i]:=List.find?_eq_some_iff_getElem.2 ⟨by rw[e];exact h2,i,hi,rfl,fun j hj=>by
  rw[h3 j l[j] hj (qE1 (by omega))];rfl⟩
 rw[this,e]
theorem pI_PlaceOf_eq {fuel:Nat} {t:List INode} {w h p:Int} (hf:2*t.length+100<fuel) (hm:t.length≤1048576):pI_PlaceOf fuel t w h p=some (placeOfV t w h p):=by
 unfold pI_PlaceOf placeOfV pG_slices_IndexFunc_IRect_I_PlaceOf_1
 rw[pI_Places_eq hf,bd_s]
 have hl:=placesV_len t w h
 generalize placesV t w h=pl at hl
 obtain⟨l,b⟩:=pl
 simp only at hl⊢
 rcases loopF_find (B:=pG_slices_IndexFunc_IRect_I_PlaceOf_1_b1 fuel) (fun i=>(p,l,(l.length:Int),(i:Int))) l (fun x=>x.Pane==p) (fun i=> .inr ((i:Int),p)) (.inl p) (fuel:=fuel) (v:=(p,l,(l.length:Int),0)) rfl (fun i x hx=>by
  obtain⟨h1,h2,h3,h4,h5⟩:=idx_facts hx (by omega)
  unfold pG_slices_IndexFunc_IRect_I_PlaceOf_1_b1 pI_PlaceOf_1
  simp only[h1,br_t,gd_t h2,h3,bd_s,h5,gd_t h4]
  cases x.Pane==p<;>rfl) (by
  unfold pG_slices_IndexFunc_IRect_I_PlaceOf_1_b1
  simp) (by omega)with⟨i,x,h1,h2,h3,h4⟩ |⟨h1,h2⟩
 ·have hi:=(qS1.1 h1).1
  rw[h4]
  simp only[jn_r,bd_s]
  rw[show decide ((i:Int)<0)=false by simp,br_f,gd_t ⟨by omega,by omega⟩,show(i:Int).toNat=i by omega,h1,bd_s,find_at h1 h2 h3]
 ·rw[h2]
  simp only[jn_l,bd_s]
  rw[show decide ((-1:Int)<0)=true by rfl,br_t,List.find?_eq_none.2 fun x hx=>by rw[h1 x hx];simp]
  rfl
theorem pS_PlaceOf_eq {fuel:Nat} {t:List INode} {w h p:Int} (hf:2*t.length+100<fuel) (hm:t.length≤1048576):pS_PlaceOf fuel t w h p=some (placeOfV t w h p):=by
 unfold pS_PlaceOf placeOfV
 rw[pS_Places_eq hf,bd_s]
 have hl:=placesV_len t w h
 generalize placesV t w h=pl at hl
 obtain⟨l,b⟩:=pl
 simp only at hl⊢
 have key:(∃(i:Nat) (x:IRect),l[i]?=some x∧(x.Pane==p)=true∧(∀(j:Nat) y,j<i→l[j]?=some y→(y.Pane==p)=false)∧loopF (pS_PlaceOf_b1 fuel) fuel (IRect.mk 0 0 0 0 0,p,l,(l.length:Int),0)=some (.inr ((l[i]?).getD noR,true)))∨((∀x∈l,(x.Pane==p)=false)∧loopF (pS_PlaceOf_b1 fuel) fuel (IRect.mk 0 0 0 0 0,p,l,(l.length:Int),0)=some (.inl noR)):=
  loopF_find (B:=pS_PlaceOf_b1 fuel) (fun i=>(IRect.mk 0 0 0 0 0,p,l,(l.length:Int),(i:Int))) l (fun x=>x.Pane==p) (fun i=> .inr ((l[i]?).getD noR,true)) (.inl noR) rfl (fun i x hx=>by
   obtain⟨h1,h2,h3,h4,h5⟩:=idx_facts hx (by omega)
   unfold pS_PlaceOf_b1
   rw[hx]
   simp only[h1,br_t,gd_t h2,Nat.zero_add,h3,bd_s,h5,gd_t h4]
   cases x.Pane==p<;>rfl) (by
   unfold pS_PlaceOf_b1
   simp[noR]) (by omega)
 rcases key with⟨i,x,h1,h2,h3,h4⟩ |⟨h1,h2⟩
 ·rw[h4]
  simp only[jn_r]
  rw[find_at h1 h2 h3,h1]
  rfl
 ·rw[h2]
  simp only[jn_l]
  rw[List.find?_eq_none.2 fun x hx=>by rw[h1 x hx];simp]
  rfl
noncomputable def leavesV (t:List INode):List Int:=if treeB t=true then lvs t else []
theorem leavesV_len (t:List INode):(leavesV t).length≤t.length:=by
 unfold leavesV
 split
 ·exact lvs_len t
 ·exact Nat.zero_le _
theorem pI_Leaves_eq {fuel:Nat} {t:List INode} (hf:2*t.length+100<fuel):pI_Leaves fuel t=some (leavesV t):=by
 unfold pI_Leaves leavesV
 rw[pI_TreeOk_eq hf,bd_s]
 cases ht:treeB t with
 | false=>rfl
 | true=>
  have:=(treeB_iff.1 ht).1
  simp only[Bool.not_true,br_f,if_true]
  rw[pI_leaves_eq (by omega) (by omega),bd_s]
theorem pS_Leaves_eq {fuel:Nat} {t:List INode} (hf:2*t.length+100<fuel):pS_Leaves fuel t=some (leavesV t):=by
 unfold pS_Leaves leavesV
 rw[pS_TreeOk_eq hf,bd_s]
 cases ht:treeB t with
 | false=>rfl
 | true=>
  obtain⟨hl,⟨T,e,ho⟩,_⟩:=treeB_iff.1 ht
  have hn:∀x∈t,nodeOk x=true:=fun x hx=>(ok_sh ho).2 x (by rw[←e];exact hx)
  simp only[Bool.not_true,br_f,if_true]
  have key:loopF (pS_Leaves_b1 fuel) fuel ([],t,(t.length:Int),0)=some (lvs t):=by
   refine loopF_run (fun i=>(lvs (t.take i),t,(t.length:Int),(i:Int))) t.length (lvs t) rfl (fun i hi=> ?_) (by unfold pS_Leaves_b1;simp) (by omega)
   have hx:t[i]?=some t[i]:=qE1 hi
   have hno:=hn _ (List.getElem_mem hi)
   obtain⟨h1,h2,h3,h4,h5⟩:=idx_facts hx (by omega)
   rw[take_succ_get hx,lvs_app,lvs_one]
   generalize t[i]=x at hx h3 hno
   unfold pS_Leaves_b1
   simp only[h1,br_t,gd_t h2,h3,bd_s]
   have hr:roomB K.int (lvs (t.take i)++ [x.Pane]).length:=roomB_of (by have:=lvs_len (t.take i);simp at this⊢;omega) (by decide)
   by_cases h0:x.Pane=0
   ·have e1:decide (0<x.Pane)=false:=by simp[h0]
    simp only[e1,br_f,bd_s,if_pos h0,List.append_nil]
    rw[h5,gd_t h4]
   ·have e1:decide (0<x.Pane)=true:=by
     unfold nodeOk at hno
     rw[Bool.or_eq_true]at hno
     rcases hno with h|h
     ·unfold leafOk at h;simp only[Bool.and_eq_true,decide_eq_true_eq]at h;simp;omega
     ·exact absurd (splitOk_eq h) h0
    simp only[e1,br_t,if_neg h0,gd_t hr,bd_s]
    rw[h5,gd_t h4]
  rw[key,bd_s]
def atV {α:Type} (q:α→Bool) (l:List α):Int:=match l.findIdx? q with
 | some i=>(i:Int)
 | none=> -1
theorem findIdx_at {α:Type} {l:List α} {q:α→Bool} {i:Nat} {x:α} (h1:l[i]?=some x) (h2:q x=true) (h3:∀(j:Nat) y,j<i→l[j]?=some y→q y=false):l.findIdx? q=some i:=by
 obtain⟨hi,e⟩:=qS1.1 h1
 exact List.findIdx?_eq_some_iff_getElem.2 ⟨hi,by rw[e];exact h2,fun j hj=>by
  rw[h3 j l[j] hj (qE1 (by omega))];simp⟩
theorem loopF_fnd {V O α:Type} {B:V→Option (V⊕O)} (f:Nat→V) (l:List α) (q:α→Bool) (R:Nat→O) (E:O) {fuel:Nat} {v:V} (hv:v=f 0) (h:∀i x,l[i]?=some x→B (f i)=if q x then some (.inr (R i))else some (.inl (f (i+1)))) (he:B (f l.length)=some (.inr E)) (hf:l.length<fuel) :
  loopF B fuel v=some (match l.findIdx? q with|some i=>R i|none=>E):=by
 rcases loopF_find f l q R E hv h he hf with⟨i,x,h1,h2,h3,h4⟩ |⟨h1,h2⟩
 ·rw[h4,findIdx_at h1 h2 h3]
 ·rw[h2,List.findIdx?_eq_none_iff.2 h1]
theorem atV_some {α:Type} {q:α→Bool} {l:List α} {i:Nat} (h:l.findIdx? q=some i):atV q l=(i:Int):=by unfold atV;rw[h]
theorem atV_none {α:Type} {q:α→Bool} {l:List α} (h:l.findIdx? q=none):atV q l= -1:=by unfold atV;rw[h]
theorem atV_neg {α:Type} (q:α→Bool) (l:List α):decide (atV q l<0)= !l.any q:=by
 cases h:l.findIdx? q with
 | none=>
  rw[atV_none h]
  have:=List.findIdx?_eq_none_iff.1 h
  rw[show l.any q=false from List.any_eq_false.2 fun x hx=>by rw[this x hx];simp]
  rfl
 | some i=>
  rw[atV_some h]
  obtain⟨hi,h2,_⟩:=List.findIdx?_eq_some_iff_getElem.1 h
  rw[show l.any q=true from List.any_eq_true.2 ⟨l[i],List.getElem_mem hi,h2⟩]
  simp
theorem atV_nonneg {α:Type} (q:α→Bool) (l:List α):decide (0≤atV q l)=l.any q:=by
 have:=atV_neg q l
 cases h:l.any q with
 | true=>
  rw[h]at this
  simp only[Bool.not_true,decide_eq_false_iff_not]at this
  simp;omega
 | false=>
  rw[h]at this
  simp only[Bool.not_false,decide_eq_true_eq]at this
  simp;omega
theorem findIdx_get {α:Type} {q:α→Bool} {l:List α} {i:Nat} (h:l.findIdx? q=some i):∃x,l[i]?=some x∧q x=true:=by
 obtain⟨hi,h2,_⟩:=List.findIdx?_eq_some_iff_getElem.1 h
 exact⟨l[i],qE1 hi,h2⟩
section
variable {fuel:Nat}
theorem index_int {l:List Int} {n:Int} (hl:l.length≤1000000000) (hf:l.length<fuel):pG_slices_Index_int fuel l n=some (atV (fun y=>y==n) l):=by
 unfold pG_slices_Index_int atV
 have h:=loopF_fnd (B:=pG_slices_Index_int_b1 fuel) (fun i=>(l,n,(l.length:Int),(i:Int))) l (fun y=>y==n) (fun i=> .inr (i:Int)) (.inl ()) (v:=(l,n,(l.length:Int),0)) rfl (fun i x hx=>by
  obtain⟨h1,h2,h3,h4,h5⟩:=idx_facts hx (by omega)
  unfold pG_slices_Index_int_b1
  simp only[h1,br_t,gd_t h2,h3,bd_s,h5,gd_t h4]
  rw[show(n==x)=(x==n) by rw[Bool.eq_iff_iff];simp;exact eq_comm]
  cases x==n<;>rfl) (by unfold pG_slices_Index_int_b1;simp) hf
 rw[h]
 cases l.findIdx? _<;>rfl
theorem contains_int {l:List Int} {n:Int} (hl:l.length≤1000000000) (hf:l.length<fuel):pG_slices_Contains_int fuel l n=some (l.any fun y=>y==n):=by
 unfold pG_slices_Contains_int
 rw[index_int hl hf,bd_s,atV_nonneg]
theorem pS_PaneAt_eq {s:IState} {n:Int} (hl:s.Panes.length≤1000000000) (hf:s.Panes.length<fuel):pS_PaneAt fuel s n=some (atV (fun y=>y.Id==n) s.Panes):=by
 unfold pS_PaneAt atV
 have h:=loopF_fnd (B:=pS_PaneAt_b1 fuel) (fun i=>(n,s.Panes,(s.Panes.length:Int),(i:Int))) s.Panes (fun y=>y.Id==n) (fun i=> .inr (i:Int)) (.inl ()) (v:=(n,s.Panes,(s.Panes.length:Int),0)) rfl (fun i x hx=>by
  obtain⟨h1,h2,h3,h4,h5⟩:=idx_facts hx (by omega)
  unfold pS_PaneAt_b1
  simp only[h1,br_t,gd_t h2,h3,bd_s,h5,gd_t h4]
  cases x.Id==n<;>rfl) (by unfold pS_PaneAt_b1;simp) hf
 rw[h]
 cases s.Panes.findIdx? _<;>rfl
theorem pS_WinAt_eq {s:IState} {n:Int} (hl:s.Wins.length≤1000000000) (hf:s.Wins.length<fuel):pS_WinAt fuel s n=some (atV (fun y=>y.Id==n) s.Wins):=by
 unfold pS_WinAt atV
 have h:=loopF_fnd (B:=pS_WinAt_b1 fuel) (fun i=>(n,s.Wins,(s.Wins.length:Int),(i:Int))) s.Wins (fun y=>y.Id==n) (fun i=> .inr (i:Int)) (.inl ()) (v:=(n,s.Wins,(s.Wins.length:Int),0)) rfl (fun i x hx=>by
  obtain⟨h1,h2,h3,h4,h5⟩:=idx_facts hx (by omega)
  unfold pS_WinAt_b1
  simp only[h1,br_t,gd_t h2,h3,bd_s,h5,gd_t h4]
  cases x.Id==n<;>rfl) (by unfold pS_WinAt_b1;simp) hf
 rw[h]
 cases s.Wins.findIdx? _<;>rfl
theorem pI_WinAt_eq {s:IState} {n:Int} (hl:s.Wins.length≤1000000000) (hf:s.Wins.length<fuel):pI_WinAt fuel s n=some (atV (fun y=>y.Id==n) s.Wins):=by
 unfold pI_WinAt pG_slices_IndexFunc_IWin_I_WinAt_1 atV
 have h:=loopF_fnd (B:=pG_slices_IndexFunc_IWin_I_WinAt_1_b1 fuel) (fun i=>(n,s.Wins,(s.Wins.length:Int),(i:Int))) s.Wins (fun y=>y.Id==n) (fun i=> .inr ((i:Int),n)) (.inl n) (v:=(n,s.Wins,(s.Wins.length:Int),0)) rfl (fun i x hx=>by
  obtain⟨h1,h2,h3,h4,h5⟩:=idx_facts hx (by omega)
  unfold pG_slices_IndexFunc_IWin_I_WinAt_1_b1 pI_WinAt_1
  simp only[h1,br_t,gd_t h2,h3,bd_s,h5,gd_t h4]
  cases x.Id==n<;>rfl) (by unfold pG_slices_IndexFunc_IWin_I_WinAt_1_b1;simp) hf
 rw[h]
 cases s.Wins.findIdx? _<;>rfl
theorem pS_SessAt_eq {s:IState} {n:ByteArray} (hl:s.Sess.length≤1000000000) (hf:s.Sess.length<fuel):pS_SessAt fuel s n=some (atV (fun y=>decide (y.Name=n)) s.Sess):=by
 unfold pS_SessAt atV
 have h:=loopF_fnd (B:=pS_SessAt_b1 fuel) (fun i=>(n,s.Sess,(s.Sess.length:Int),(i:Int))) s.Sess (fun y=>decide (y.Name=n)) (fun i=> .inr (i:Int)) (.inl ()) (v:=(n,s.Sess,(s.Sess.length:Int),0)) rfl (fun i x hx=>by
  obtain⟨h1,h2,h3,h4,h5⟩:=idx_facts hx (by omega)
  unfold pS_SessAt_b1
  simp only[h1,br_t,gd_t h2,h3,bd_s,h5,gd_t h4]
  cases decide (x.Name=n)<;>rfl) (by unfold pS_SessAt_b1;simp) hf
 rw[h]
 cases s.Sess.findIdx? _<;>rfl
theorem pI_SessAt_eq {s:IState} {n:ByteArray} (hl:s.Sess.length≤1000000000) (hf:s.Sess.length<fuel):pI_SessAt fuel s n=some (atV (fun y=>decide (y.Name=n)) s.Sess):=by
 unfold pI_SessAt pG_slices_IndexFunc_ISess_I_SessAt_1 atV
 have h:=loopF_fnd (B:=pG_slices_IndexFunc_ISess_I_SessAt_1_b1 fuel) (fun i=>(n,s.Sess,(s.Sess.length:Int),(i:Int))) s.Sess (fun y=>decide (y.Name=n)) (fun i=> .inr ((i:Int),n)) (.inl n) (v:=(n,s.Sess,(s.Sess.length:Int),0)) rfl (fun i x hx=>by
  obtain⟨h1,h2,h3,h4,h5⟩:=idx_facts hx (by omega)
  unfold pG_slices_IndexFunc_ISess_I_SessAt_1_b1 pI_SessAt_1
  simp only[h1,br_t,gd_t h2,h3,bd_s,h5,gd_t h4]
  cases decide (x.Name=n)<;>rfl) (by unfold pG_slices_IndexFunc_ISess_I_SessAt_1_b1;simp) hf
 rw[h]
 cases s.Sess.findIdx? _<;>rfl
structure StF (fuel:Nat) (s:IState):Prop where
 fu:20000000<fuel
 pl:s.Panes.length≤1048576
 wl:s.Wins.length≤1048576
 sl:s.Sess.length≤1048576
 tr:∀w∈s.Wins,w.Tree.length≤1048576
 nm:∀w∈s.Wins,w.Name.size≤1048576
 sw:∀x∈s.Sess,x.Wins.length≤1048576
 sn:∀x∈s.Sess,x.Name.size≤1048576
noncomputable def winQ (p:Int) (w:IWin):Bool:=(leavesV w.Tree).any fun y=>y==p
theorem pI_WinOf_eq {s:IState} {p:Int} (h:StF fuel s):pI_WinOf fuel s p=some (atV (winQ p) s.Wins):=by
 have:=h.fu;have:=h.wl
 unfold pI_WinOf pG_slices_IndexFunc_IWin_I_WinOf_1 atV
 have hh:=loopF_fnd (fuel:=fuel) (B:=pG_slices_IndexFunc_IWin_I_WinOf_1_b1 fuel) (fun i=>(p,s.Wins,(s.Wins.length:Int),(i:Int))) s.Wins (winQ p) (fun i=> .inr ((i:Int),p)) (.inl p) (v:=(p,s.Wins,(s.Wins.length:Int),0)) rfl (fun i x hx=>by
  obtain⟨h1,h2,h3,h4,h5⟩:=idx_facts hx (by omega)
  have ht:=h.tr x (qM1 hx)
  have hll:=leavesV_len x.Tree
  unfold pG_slices_IndexFunc_IWin_I_WinOf_1_b1 pI_WinOf_1
  simp only[h1,br_t,gd_t h2,h3,bd_s,h5,gd_t h4]
  rw[pI_Leaves_eq (by omega),bd_s,contains_int (by omega) (by omega),bd_s,bd_s]
  unfold winQ
  cases(leavesV x.Tree).any fun y=>y==p<;>rfl) (by unfold pG_slices_IndexFunc_IWin_I_WinOf_1_b1;simp) (by omega)
 rw[hh]
 cases s.Wins.findIdx? _<;>rfl
theorem pS_WinOf_eq {s:IState} {p:Int} (h:StF fuel s):pS_WinOf fuel s p=some (atV (winQ p) s.Wins):=by
 have:=h.fu;have:=h.wl
 unfold pS_WinOf atV
 have hh:=loopF_fnd (fuel:=fuel) (B:=pS_WinOf_b1 fuel) (fun i=>(p,s.Wins,(s.Wins.length:Int),(i:Int))) s.Wins (winQ p) (fun i=> .inr (i:Int)) (.inl ()) (v:=(p,s.Wins,(s.Wins.length:Int),0)) rfl (fun i x hx=>by
  obtain⟨h1,h2,h3,h4,h5⟩:=idx_facts hx (by omega)
  have ht:=h.tr x (qM1 hx)
  have hll:=leavesV_len x.Tree
  unfold pS_WinOf_b1
  simp only[h1,br_t,gd_t h2,h3,bd_s,h5,gd_t h4]
  rw[pS_Leaves_eq (by omega),bd_s,hasInt_eq (by omega) (by omega),bd_s]
  unfold winQ
  cases(leavesV x.Tree).any fun y=>y==p<;>rfl) (by unfold pS_WinOf_b1;simp) (by omega)
 rw[hh]
 cases s.Wins.findIdx? _<;>rfl
noncomputable def areaV (s:IState) (p:Int):Int×Int:=match s.Wins.findIdx? (winQ p)with
 | none=>(0,0)
 | some i=>(match s.Wins[i]? with
  | none=>(0,0)
  | some w=>if(w.Zoom&&w.Active==p)=true then(s.W,s.H)else((placeOfV w.Tree s.W s.H p).1.W,(placeOfV w.Tree s.W s.H p).1.H))
theorem pI_Area_eq {s:IState} {p:Int} (h:StF fuel s):pI_Area fuel s p=some (areaV s p):=by
 have:=h.fu;have:=h.wl
 unfold pI_Area areaV
 rw[pI_WinOf_eq h,bd_s]
 cases hi:s.Wins.findIdx? (winQ p)with
 | none=>rw[atV_none hi];rfl
 | some i=>
  obtain⟨w,hw,_⟩:=findIdx_get hi
  have hlt:=(qS1.1 hw).1
  have ht:=h.tr w (qM1 hw)
  rw[atV_some hi,show decide ((i:Int)<0)=false by simp,br_f,gd_t ⟨by omega,by omega⟩,show(i:Int).toNat=i by omega,hw,bd_s]
  simp only
  rw[hw]
  simp only
  cases hz:w.Zoom with
  | false=>
   simp only[br_f,bd_s,Bool.false_and,Bool.false_eq_true,if_false]
   rw[pI_PlaceOf_eq (by omega) ht,bd_s]
  | true=>
   simp only[br_t,bd_s,Bool.true_and]
   cases ha:(w.Active==p)with
   | true=>rfl
   | false=>
    simp only[br_f,Bool.false_eq_true,if_false]
    rw[pI_PlaceOf_eq (by omega) ht,bd_s]
theorem pS_Area_eq {s:IState} {p:Int} (h:StF fuel s):pS_Area fuel s p=some (areaV s p):=by
 have:=h.fu;have:=h.wl
 unfold pS_Area areaV
 rw[pS_WinOf_eq h,bd_s]
 cases hi:s.Wins.findIdx? (winQ p)with
 | none=>rw[atV_none hi];rfl
 | some i=>
  obtain⟨w,hw,_⟩:=findIdx_get hi
  have hlt:=(qS1.1 hw).1
  have ht:=h.tr w (qM1 hw)
  rw[atV_some hi,show decide ((i:Int)<0)=false by simp,br_f,gd_t ⟨by omega,by omega⟩,show(i:Int).toNat=i by omega,hw,bd_s]
  simp only
  rw[hw]
  simp only
  cases hz:w.Zoom with
  | false=>
   simp only[br_f,bd_s,Bool.false_and,Bool.false_eq_true,if_false]
   rw[pS_PlaceOf_eq (by omega) ht,bd_s]
  | true=>
   simp only[br_t,bd_s,Bool.true_and]
   cases ha:(w.Active==p)with
   | true=>rfl
   | false=>
    simp only[br_f,Bool.false_eq_true,if_false]
    rw[pS_PlaceOf_eq (by omega) ht,bd_s]
end
def bOk (x:UInt8):Bool:=(decide (97≤x.toNat)&&decide (x.toNat≤122))||(decide (48≤x.toNat)&&decide (x.toNat≤57))
def badW (s:ByteArray) (i:Nat):Bool:=match s[i]? with
 | some x=> !bOk x
 | none=>false
def wordB (s:ByteArray):Bool:= !(List.range s.size).any (badW s)&&(decide (1≤(s.size:Int))&&decide ((s.size:Int)≤12))
theorem byte_at {s:ByteArray} {i:Nat} (h:i<s.size):s[i]?=some s[i]:=getElem?_pos s i h
theorem noByte (c:Int):pG_strings_IndexByte (ByteArray.mk #[]) c=some (-1):=by
 unfold pG_strings_IndexByte
 rw[gd_t (by show(0:Nat)≤_;omega)]
 rfl
theorem word_cases (x:UInt8):∃a b c d:Bool,decide (97≤(x.toNat:Int))=a∧decide ((x.toNat:Int)≤122)=b∧decide (48≤(x.toNat:Int))=c∧decide ((x.toNat:Int)≤57)=d∧bOk x=((a&&b)||(c&&d)):=by
 refine⟨_,_,_,_,rfl,rfl,rfl,rfl,?_⟩
 unfold bOk
 rw[show decide (97≤(x.toNat:Int))=decide (97≤x.toNat) by rw[decide_eq_decide];omega,show decide ((x.toNat:Int)≤122)=decide (x.toNat≤122) by rw[decide_eq_decide];omega,show decide (48≤(x.toNat:Int))=decide (48≤x.toNat) by rw[decide_eq_decide];omega,show decide ((x.toNat:Int)≤57)=decide (x.toNat≤57) by rw[decide_eq_decide];omega]
theorem pI_WordOk_eq {fuel:Nat} {s:ByteArray} (hs:s.size≤1048576) (hf:s.size<fuel):pI_WordOk fuel s=some (wordB s):=by
 unfold pI_WordOk pI_isPlain wordB
 have key:loopF (pI_isPlain_b1 fuel) fuel (s,12,ByteArray.mk #[],(s.size:Int),0)=some (if(List.range s.size).any (badW s)then Sum.inr false else Sum.inl (s,12)):=by
  refine loopF_scan (fun i=>(s,12,ByteArray.mk #[],(s.size:Int),(i:Int))) s.size (badW s) (Sum.inr false) (Sum.inl (s,12)) rfl (fun i hi=> ?_) (by unfold pI_isPlain_b1;simp) hf
  have hx:=byte_at hi
  unfold pI_isPlain_b1 badW
  rw[hx]
  generalize s[i]=x at hx
  simp only
  rw[show decide ((i:Int)<(s.size:Int))=true by simpa using hi,br_t,gd_t (by omega),show(i:Int).toNat=i by omega,hx,bd_s]
  obtain⟨a,b,c,d,e1,e2,e3,e4,e5⟩:=word_cases x
  simp only[e1,e2,e3,e4,e5,noByte]
  have h5:(i:Int)+1=((i+1:Nat):Int):=by omega
  have hk:inK .i64 ((i:Int)+1):=inK64 (by omega) (by omega)
  cases a<;>cases b<;>cases c<;>cases d<;>simp only[br_t,br_f,bd_s]<;>first|rfl|(refine(gd_p hk _).trans ?_;rw[h5];rfl)
 rw[key]
 cases(List.range s.size).any (badW s)with
 | true=>rfl
 | false=>
  simp only[Bool.false_eq_true,if_false,jn_l,pI_within_eq,bd_s,Bool.not_false,Bool.true_and]
theorem pS_WordOk_eq {fuel:Nat} {s:ByteArray} (hs:s.size≤1048576) (hf:s.size<fuel):pS_WordOk fuel s=some (wordB s):=by
 unfold pS_WordOk wordB
 have key:loopF (pS_WordOk_b1 fuel) fuel (s,0)=some (if(List.range s.size).any (badW s)then Sum.inr false else Sum.inl s):=by
  refine loopF_scan (fun i=>(s,(i:Int))) s.size (badW s) (Sum.inr false) (Sum.inl s) rfl (fun i hi=> ?_) (by unfold pS_WordOk_b1;simp) hf
  have hx:=byte_at hi
  unfold pS_WordOk_b1 badW
  rw[hx]
  generalize s[i]=x at hx
  simp only
  rw[show decide ((i:Int)<(s.size:Int))=true by simpa using hi,br_t]
  simp only[gd_t (show(0:Int)≤(i:Int) by omega),show(i:Int).toNat=i by omega,hx,bd_s]
  obtain⟨a,b,c,d,e1,e2,e3,e4,e5⟩:=word_cases x
  have f1:decide ((x.toNat:Int)<97)= !a:=by rw[←e1];by_cases h:97≤(x.toNat:Int)<;>simp[h]<;>omega
  have f2:decide (122<(x.toNat:Int))= !b:=by rw[←e2];by_cases h:(x.toNat:Int)≤122<;>simp[h]<;>omega
  have f3:decide ((x.toNat:Int)<48)= !c:=by rw[←e3];by_cases h:48≤(x.toNat:Int)<;>simp[h]<;>omega
  have f4:decide (57<(x.toNat:Int))= !d:=by rw[←e4];by_cases h:(x.toNat:Int)≤57<;>simp[h]<;>omega
  simp only[f1,f2,f3,f4,e5]
  have h5:(i:Int)+1=((i+1:Nat):Int):=by omega
  have f5:a=true→b=false→c=true∧d=false:=by
   intro ha hb
   subst ha hb
   simp only[decide_eq_true_eq,decide_eq_false_iff_not]at e1 e2
   constructor
   ·rw[←e3];simp;omega
   ·rw[←e4];simp;omega
  have f6:a=false→b=true:=by
   intro ha
   subst ha
   simp only[decide_eq_false_iff_not]at e1
   rw[←e2];simp;omega
  have hk:inK .i64 ((i:Int)+1):=inK64 (by omega) (by omega)
  cases a<;>cases b<;>cases c<;>cases d<;>simp only[br_t,br_f,bd_s,Bool.not_true,Bool.not_false]<;>first|rfl|(exact absurd (f6 rfl) (by decide))|(have f7:=f5 rfl rfl;simp at f7;done)|(refine(gd_p hk _).trans ?_;rw[h5];rfl)
 rw[key]
 cases(List.range s.size).any (badW s)with
 | true=>rfl
 | false=>
  simp only[Bool.false_eq_true,if_false,jn_l,bd_s,Bool.not_false,Bool.true_and]
  cases decide (1≤(s.size:Int))<;>rfl
def numT (n:Int):ByteArray:=if 0≤n∧n≤4294967295 then⟨(Lib.decDigits n.toNat).toArray⟩else ByteArray.mk #[]
theorem pI_NumText_eq (fuel:Nat) (n:Int):pI_NumText fuel n=some (numT n):=by
 unfold pI_NumText pI_isNum numT pG_strconv_Itoa
 rw[pI_within_eq,bd_s,bd_s]
 by_cases h:0≤n∧n≤4294967295
 ·rw[show(decide (0≤n)&&decide (n≤4294967295))=true by simp[h.1,h.2],if_pos h,gd_t h]
  rfl
 ·rw[show(decide (0≤n)&&decide (n≤4294967295))=false by rw[Bool.and_eq_false_iff];simp;omega,if_neg h]
  rfl
theorem dig (k:Nat) (hk:k<10):UInt8.ofNat (IntKind.u8.wrap (48+(k:Int))).toNat=UInt8.ofNat (48+k):=by
 congr 1
 show((48+(k:Int)) % 256).toNat=_
 omega
theorem numText_go (fuel:Nat):∀(k m u:Nat),u<10 ^ (k+1)→u≤4294967295→k<m→recF (pS_NumText fuel) m (u:Int)=some ⟨(Lib.decDigits u).toArray⟩
 | k,0,u,h,hu,hk=>by omega
 | k,m+1,u,h,hu,hk=>by
  show pS_NumText fuel (recF (pS_NumText fuel) m) (u:Int)=_
  have ih:∀k',k=k'+1→recF (pS_NumText fuel) m ((u / 10:Nat):Int)=some ⟨(Lib.decDigits (u / 10)).toArray⟩:=fun k' e=>numText_go fuel k' m (u / 10) (by subst e;rw[Nat.pow_succ]at h;omega) (by omega) (by omega)
  generalize recF (pS_NumText fuel) m=slf at ih⊢
  unfold pS_NumText pS_l01Num
  rw[show decide (0≤(u:Int))=true by simp,show decide ((u:Int)≤4294967295)=true by simp;omega]
  simp only[br_t,bd_s,Bool.not_true,br_f]
  by_cases h10:u<10
  ·rw[show decide ((u:Int)<10)=true by simp;omega,br_t,gd_t (inK64 (by omega) (by omega)),dec_small h10,dig u h10]
  ·rw[show decide ((u:Int)<10)=false by simp;omega,br_f]
   have e1:(u:Int).tdiv 10=((u / 10:Nat):Int):=by
    rw[Int.tdiv_eq_ediv_of_nonneg (by omega)];omega
   have e2:(u:Int).tmod 10=((u % 10:Nat):Int):=by
    rw[Int.tmod_eq_emod_of_nonneg (by omega)];omega
   cases k with
   | zero=>simp at h;omega
   | succ k=>
    have hl:=dec_len k (u / 10) (by rw[Nat.pow_succ]at h;omega)
    have hk20:k≤9∨9<k:=by omega
    rw[e1,e2,gd_t (by omega),gd_t (inK64 (by omega) (by omega)),ih k rfl,bd_s,gd_t (by omega),gd_t (inK64 (by omega) (by omega)),dig (u % 10) (by omega)]
    have hl2:=dec_len 9 (u / 10) (by omega)
    rw[gd_t (by
     show(Lib.decDigits (u / 10)).toArray.size+1≤_
     simp;omega),dec_big h10]
    congr 1
theorem pS_NumText_eq {fuel:Nat} (n:Int) (hf:20<fuel):recF (pS_NumText fuel) fuel n=some (numT n):=by
 unfold numT
 by_cases h:0≤n∧n≤4294967295
 ·rw[if_pos h]
  have:=numText_go fuel 9 fuel n.toNat (by omega) (by omega) (by omega)
  rwa[show((n.toNat:Nat):Int)=n by omega]at this
 ·rw[if_neg h]
  obtain⟨m,rfl⟩:∃m,fuel=m+1:=⟨fuel-1,by omega⟩
  show pS_NumText (m+1) (recF (pS_NumText (m+1)) m) n=_
  generalize recF (pS_NumText (m+1)) m=slf
  unfold pS_NumText pS_l01Num
  by_cases h0:0≤n
  ·rw[show decide (0≤n)=true by simpa using h0,show decide (n≤4294967295)=false by simp;omega];rfl
  ·rw[show decide (0≤n)=false by simpa using h0];rfl
theorem numT_size (n:Int):(numT n).size≤10:=by
 unfold numT
 split
 ·show(Lib.decDigits n.toNat).toArray.size≤_
  have:=dec_len 9 n.toNat (by omega)
  simp;omega
 ·exact Nat.zero_le _
open Classical in
noncomputable def fi:List MapEntry→Int→Option (Nat×Value)
 | [],_=>none
 | e::l,k=>if e.key= .int .i64 k then some (0,e.val)else(fi l k).map fun p=>(p.1+1,p.2)
def WfE (e:MapEntry):Prop:=(∃n,e.key= .int .i64 n)∧∃b,e.val= .bool b
theorem find_fi {k:Int}:∀{l:List MapEntry} {i:Nat},(∀e∈l,WfE e)→Instr.findNow (.int .i64) (.int .i64 k) l i=some ((fi l k).map fun p=>(i+p.1,p.2))
 | [],i,_=>rfl
 | e::l,i,h=>by
  obtain⟨⟨n,hn⟩,_⟩:=h e (by simp)
  have ih:=find_fi (k:=k) (l:=l) (i:=i+1) fun e he=>h e (by simp[he])
  unfold Instr.findNow fi
  rw[hn]
  unfold Instr.sameNow
  by_cases hkn:k=n
  ·subst hkn
   simp
  ·have e1:¬(Value.int .i64 n= .int .i64 k):=fun e=>hkn (by injection e with _ e;exact e.symm)
   rw[if_neg e1]
   simp only[if_true,show(k==n)=false by simpa using hkn]
   rw[ih]
   cases fi l k with
   | none=>rfl
   | some p=>simp;omega
theorem fi_get {k:Int}:∀{l:List MapEntry} {i:Nat} {v:Value},fi l k=some (i,v)→∃e,l[i]?=some e∧e.key= .int .i64 k∧e.val=v
 | [],_,_,h=>by cases h
 | e::l,i,v,h=>by
  unfold fi at h
  split at h
  ·rename_i hk
   cases h
   exact⟨e,rfl,hk,rfl⟩
  ·cases hf:fi l k with
   | none=>rw[hf]at h;cases h
   | some p=>
    rw[hf]at h
    obtain⟨j,u⟩:=p
    simp at h
    obtain⟨rfl,rfl⟩:=h
    obtain⟨e',h1,h2⟩:=fi_get hf
    exact⟨e',by simpa using h1,h2⟩
def boolV:Value→Bool
 | .bool b=>b
 | _=>false
def boolOf:Option (Nat×Value)→Bool
 | some p=>boolV p.2
 | none=>false
def MapF (o:Obj) (g:Int→Bool):Prop:=∃es cl,o= .map es cl∧(∀e∈es.toList,WfE e)∧∀k,boolOf (fi es.toList k)=g k
theorem mapF_empty:MapF emptyM fun _=>false:=⟨#[],0,rfl,by simp,fun k=>rfl⟩
theorem mapF_get {o:Obj} {g:Int→Bool} (h:MapF o g) (k:Int):mpB .i o (.int .i64 k)=some (g k):=by
 obtain⟨es,cl,rfl,hw,hg⟩:=h
 unfold mpB mpGet
 simp only[MK.td]
 rw[find_fi hw,←hg k]
 cases hf:fi es.toList k with
 | none=>rfl
 | some p=>
  obtain⟨i,v⟩:=p
  obtain⟨e,h1,_,h3⟩:=fi_get hf
  obtain⟨_,b,hb⟩:=hw e (qM1 h1)
  rw[hb]at h3
  subst h3
  rfl
theorem fi_app {k:Int} {x:MapEntry}:∀{l:List MapEntry},boolOf (fi (l++ [x]) k)=match fi l k with
  | some p=>boolOf (some p)
  | none=>boolOf (fi [x] k)
 | []=>rfl
 | e::l=>by
  have ih:=fi_app (k:=k) (x:=x) (l:=l)
  rw[List.cons_append]
  unfold fi
  by_cases hk:e.key= .int .i64 k
  ·rw[if_pos hk,if_pos hk]
  ·rw[if_neg hk,if_neg hk]
   cases h1:fi (l++ [x]) k<;>cases h2:fi l k<;>simp only[h1,h2]at ih<;>simp only[Option.map_none,Option.map_some]
   ·exact ih
   ·rename_i p;obtain⟨_,v⟩:=p;exact ih
   ·rename_i p;obtain⟨_,v⟩:=p;unfold fi at ih;exact ih
   ·rename_i p q;obtain⟨_,v⟩:=p;obtain⟨_,u⟩:=q;exact ih
theorem fi_mod {k k':Int} {b:Bool}:∀{l:List MapEntry} {i:Nat} {v:Value},fi l k=some (i,v)→boolOf (fi (l.modify i fun e=> {e with key:= .int .i64 k,val:= .bool b}) k')=if k'=k then b else boolOf (fi l k')
 | [],_,_,h=>by cases h
 | e::l,i,v,h=>by
  unfold fi at h
  split at h
  ·rename_i hk
   cases h
   rw[List.modify_zero_cons]
   unfold fi
   by_cases hkk:k'=k
   ·subst hkk;simp[boolOf,boolV]
   ·have e1:¬(Value.int .i64 k= .int .i64 k'):=fun e=>hkk (by injection e with _ e;exact e.symm)
    rw[if_neg hkk,hk]
    simp only
    rw[if_neg e1,if_neg e1]
  ·rename_i hk
   cases hf:fi l k with
   | none=>rw[hf]at h;cases h
   | some p=>
    rw[hf]at h
    obtain⟨j,u⟩:=p
    simp at h
    obtain⟨rfl,rfl⟩:=h
    have ih:=fi_mod (k':=k') (b:=b) hf
    rw[List.modify_succ_cons]
    unfold fi
    by_cases hk2:e.key= .int .i64 k'
    ·rw[if_pos hk2,if_pos hk2]
     have:k'≠k:=fun e2=>hk (by rw[hk2,e2])
     rw[if_neg this]
    ·rw[if_neg hk2,if_neg hk2]
     cases h1:fi (l.modify j fun e=> {e with key:= .int .i64 k,val:= .bool b}) k' with
     | none=>
      rw[h1]at ih
      cases h2:fi l k' with
      | none=>rw[h2]at ih;exact ih
      | some q=>rw[h2]at ih;obtain⟨_,w⟩:=q;exact ih
     | some p1=>
      rw[h1]at ih
      obtain⟨_,w1⟩:=p1
      cases h2:fi l k' with
      | none=>rw[h2]at ih;exact ih
      | some q=>rw[h2]at ih;obtain⟨_,w⟩:=q;exact ih
theorem mapF_put {o:Obj} {g:Int→Bool} (h:MapF o g) (k:Int) (b:Bool):∃o',mpPut .i o (.int .i64 k) (.bool b)=some o'∧MapF o' fun k'=>if k'=k then b else g k':=by
 obtain⟨es,cl,rfl,hw,hg⟩:=h
 unfold mpPut
 simp only[MK.td]
 rw[find_fi hw]
 cases hf:fi es.toList k with
 | none=>
  refine⟨_,rfl,_,_,rfl,fun e he=> ?_,fun k'=> ?_⟩
  ·rw[Array.toList_push]at he
   rcases List.mem_append.1 he with he|he
   ·exact hw e he
   ·rw[List.mem_singleton.1 he];exact⟨⟨k,rfl⟩,b,rfl⟩
  ·show _=if k'=k then b else g k'
   rw[Array.toList_push,fi_app]
   by_cases hk:k'=k
   ·subst hk
    rw[hf,if_pos rfl]
    unfold fi
    simp[boolOf,boolV]
   ·rw[if_neg hk,←hg k']
    cases h2:fi es.toList k' with
    | some p=>rfl
    | none=>
     unfold fi
     have e1:¬(Value.int .i64 k= .int .i64 k'):=fun e=>hk (by injection e with _ e;exact e.symm)
     rw[if_neg e1]
     rfl
 | some p=>
  obtain⟨i,v⟩:=p
  obtain⟨e,h1,h2,h3⟩:=fi_get hf
  have hi:es[i]?=some e:=by simpa using h1
  have hsb:Instr.sameBits 10000 (((es[i]?).map (·.key)).getD (.int .i64 k)) (.int .i64 k)=true:=by
   rw[hi]
   simp only[Option.map_some,Option.getD_some,h2]
   simp[Instr.sameBits]
  simp only[Option.map_some,Nat.zero_add]
  rw[if_pos hsb]
  refine⟨_,rfl,_,_,rfl,fun e' he'=> ?_,fun k'=> ?_⟩
  ·rw[Array.toList_modify]at he'
   obtain⟨j,hj⟩:=List.getElem?_of_mem he'
   rw[List.getElem?_modify]at hj
   cases hlj:es.toList[j]? with
   | none=>rw[hlj]at hj;simp at hj
   | some e2=>
    rw[hlj]at hj
    simp at hj
    by_cases hij:i=j
    ·rw[if_pos hij]at hj;rw[←hj];exact⟨⟨k,rfl⟩,b,rfl⟩
    ·rw[if_neg hij]at hj;rw[←hj];exact hw e2 (qM1 hlj)
  ·rw[Array.toList_modify,fi_mod hf,hg k']
structure PaneF (fuel:Nat) (p:IPane):Prop where
 al:p.Term.P.Args.length≤9223372036854775807
 af:p.Term.P.Args.length<fuel
 s:ScrF fuel p.Term.S
noncomputable def paneB (p:IPane):Bool:=paneOkB p (runeBeginB p.Term.P.Part)
theorem pI_PaneOk_f {F:Nat} {p:IPane} (h:PaneF (F+70) p):pI_PaneOk (F+70) p=some (paneB p):=
 pI_PaneOk_eq (pI_TermOk_eq h.al h.af h.s (pI_RuneBegin_eq (F+68) _))
theorem pS_PaneOk_f {F:Nat} {p:IPane} (h:PaneF (F+70) p):pS_PaneOk (F+70) p=some (paneB p):=
 pS_PaneOk_eq (pS_TermOk_eq h.al h.af h.s (pS_RuneBegin_eq F _))
theorem loopF_rel {V O:Type} {B:V→Option (V⊕O)} (I:Nat→V→Prop) (n:Nat) (bad:Nat→Bool) (R E:O) {fuel:Nat} {v:V} (h0:I 0 v) (h:∀i v,i<n→I i v→if bad i=true then B v=some (.inr R)else∃v',B v=some (.inl v')∧I (i+1) v') (he:∀v,I n v→B v=some (.inr E)) (hf:n<fuel) :
  loopF B fuel v=some (if(List.range n).any bad then R else E):=by
 have key:∀(m fuel i:Nat) (v:V),n-i=m→i≤n→m<fuel→I i v→(∀j,j<i→bad j=false)→loopF B fuel v=some (if(List.range n).any bad then R else E):=by
  intro m
  induction m with
  | zero=>
   intro fuel i v hm hi hf hv hb
   obtain rfl:i=n:=by omega
   cases fuel with
   | zero=>omega
   | succ fuel=>
    unfold loopF
    rw[he v hv,show(List.range i).any bad=false from List.any_eq_false.2 fun j hj=>by rw[hb j (List.mem_range.1 hj)];simp]
    rfl
  | succ m ih=>
   intro fuel i v hm hi hf hv hb
   cases fuel with
   | zero=>omega
   | succ fuel=>
    have:=h i v (by omega) hv
    unfold loopF
    cases hbi:bad i with
    | true=>
     rw[hbi,if_pos rfl]at this
     rw[this,show(List.range n).any bad=true from List.any_eq_true.2 ⟨i,List.mem_range.2 (by omega),hbi⟩]
     rfl
    | false=>
     rw[hbi]at this
     obtain⟨v',e,hv'⟩:=this
     rw[e]
     exact ih fuel (i+1) v' (by omega) (by omega) (by omega) hv' fun j hj=>by
      by_cases hji:j=i
      ·rw[hji];exact hbi
      ·exact hb j (by omega)
 exact key n fuel 0 v rfl (Nat.zero_le _) hf h0 fun j hj=>by omega
def prevB (l:List Int) (i:Nat) (n:Int):Bool:=match i with
 | 0=>false
 | j+1=>(match l[j]? with
  | some y=>decide (n≤y)
  | none=>false)
theorem prev_step {α β:Type} {l:List α} {g:α→Int} {i:Nat} {x:α} (hx:l[i]?=some x) (hl:l.length≤1000000000) (n:Int) (K:Bool→Option β) (K':α→Option β) (hK:∀y,K' y=K (decide (n≤g y))) :
  br (decide (0<(i:Int))) (gd (inK IntKind.i64 ((i:Int)-1)) (gd (0≤(i:Int)-1∧(i:Int)-1<(l.length:Int)) (bd (l[((i:Int)-1).toNat]?) K'))) (K false)=K (prevB (l.map g) i n):=by
 cases i with
 | zero=>rfl
 | succ j=>
  obtain⟨y,h1,h2,h3,h4,h5⟩:=prev_facts hx (by omega)
  rw[h2,br_t,gd_t h3,gd_t h4,h5,bd_s,hK]
  unfold prevB
  simp only[List.getElem?_map,h1,Option.map_some]
def liveG (l:List IPane) (k:Int):Bool:=l.any fun q=>q.Life==1&&q.Pid==k
noncomputable def badP (s:IState) (i:Nat):Bool:=match s.Panes[i]? with
 | none=>false
 | some p=>(!paneB p||(decide (s.Next≤p.Id)||(prevB (s.Panes.map (·.Id)) i p.Id||((s.Wins.any fun w=>w.Id==p.Id)||p.Term.S.Limit !=s.Limit))))||(p.Life==1&&liveG (s.Panes.take i) p.Pid)
structure SF (F:Nat) (s:IState):Prop where
 f:StF (F+70) s
 p:∀p∈s.Panes,PaneF (F+70) p
theorem pI_panesOk_eq {F:Nat} {s:IState} (h:SF F s):pI_State_panesOk (F+70) s=some (!(List.range s.Panes.length).any (badP s)&&decide ((s.Panes.length:Int)≤24)):=by
 have hfu:=h.f.fu;have hpl:=h.f.pl;have hwl:=h.f.wl
 unfold pI_State_panesOk
 have key:loopF (pI_State_panesOk_b1 (F+70)) (F+70) (s,emptyM,s.Panes,(s.Panes.length:Int),0)=some (if(List.range s.Panes.length).any (badP s)then Sum.inr false else Sum.inl s):=by
  refine loopF_rel (fun i v=>∃o,v=(s,o,s.Panes,(s.Panes.length:Int),(i:Int))∧MapF o (liveG (s.Panes.take i))) s.Panes.length (badP s) (Sum.inr false) (Sum.inl s) ⟨_,rfl,mapF_empty⟩ ?_ ?_ (by omega)
  ·rintro i v hi ⟨o,rfl,hm⟩
   have hx:s.Panes[i]?=some s.Panes[i]:=qE1 hi
   have hmem:=qM1 hx
   obtain⟨h1,h2,h3,h4,h5⟩:=idx_facts hx (by omega)
   have hpo:=pI_PaneOk_f (h.p _ hmem)
   have htk:=take_succ_get hx
   unfold badP
   rw[hx]
   generalize s.Panes[i]=p at hx h3 hmem hpo htk
   have hprev:=prev_step (β:=IState×IPane×Obj×List IPane×Int×Int×Bool) (l:=s.Panes) (g:=(·.Id)) hx (by omega) p.Id
   simp only
   have chk:(bd (pI_PaneOk (F+70) p) fun x10=>
     br (!x10) (some (s,p,o,s.Panes,(s.Panes.length:Int),(i:Int),true)) <|
     br (decide (s.Next≤p.Id)) (some (s,p,o,s.Panes,(s.Panes.length:Int),(i:Int),true)) <|
     br (decide (0<(i:Int))) (
      gd (inK IntKind.i64 ((i:Int)-1)) <|
      gd (0≤(i:Int)-1∧(i:Int)-1<(s.Panes.length:Int)) <|
      bd (s.Panes[((i:Int)-1).toNat]?) fun x11=>
      br (decide (p.Id≤x11.Id)) (some (s,p,o,s.Panes,(s.Panes.length:Int),(i:Int),true)) <|
      bd (pI_WinAt (F+70) s p.Id) fun x12=>
      br (decide (0≤x12)) (some (s,p,o,s.Panes,(s.Panes.length:Int),(i:Int),true)) <|
      some (s,p,o,s.Panes,(s.Panes.length:Int),(i:Int),p.Term.S.Limit !=s.Limit)) <|
     bd (pI_WinAt (F+70) s p.Id) fun x13=>
     br (decide (0≤x13)) (some (s,p,o,s.Panes,(s.Panes.length:Int),(i:Int),true)) <|
     some (s,p,o,s.Panes,(s.Panes.length:Int),(i:Int),p.Term.S.Limit !=s.Limit))
     = some (s,p,o,s.Panes,(s.Panes.length:Int),(i:Int),!paneB p||(decide (s.Next≤p.Id)||(prevB (s.Panes.map (·.Id)) i p.Id||((s.Wins.any fun w=>w.Id==p.Id)||p.Term.S.Limit !=s.Limit)))):=by
    rw[hpo,bd_s,pI_WinAt_eq (by omega) (by omega)]
    simp only[bd_s,atV_nonneg]
    have hp2:=hprev (fun b=>br b (some (s,p,o,s.Panes,(s.Panes.length:Int),(i:Int),true)) (br (s.Wins.any fun y=>y.Id==p.Id) (some (s,p,o,s.Panes,(s.Panes.length:Int),(i:Int),true)) (some (s,p,o,s.Panes,(s.Panes.length:Int),(i:Int),p.Term.S.Limit !=s.Limit)))) (fun x11=>br (decide (p.Id≤x11.Id)) (some (s,p,o,s.Panes,(s.Panes.length:Int),(i:Int),true)) (br (s.Wins.any fun y=>y.Id==p.Id) (some (s,p,o,s.Panes,(s.Panes.length:Int),(i:Int),true)) (some (s,p,o,s.Panes,(s.Panes.length:Int),(i:Int),p.Term.S.Limit !=s.Limit)))) (fun y=>rfl)
    simp only[br_f]at hp2
    rw[hp2]
    cases paneB p<;>cases decide (s.Next≤p.Id)<;>cases prevB (s.Panes.map (·.Id)) i p.Id<;>cases(s.Wins.any fun y=>y.Id==p.Id)<;>rfl
   unfold pI_State_panesOk_b1
   simp only[h1,br_t,gd_t h2,h3,bd_s]
   rw[chk,bd_s]
   simp only
   generalize (!paneB p||(decide (s.Next≤p.Id)||(prevB (s.Panes.map (·.Id)) i p.Id||((s.Wins.any fun w=>w.Id==p.Id)||p.Term.S.Limit !=s.Limit))))=c
   cases c with
   | true=>simp
   | false=>
    simp only[br_f,Bool.false_or]
    rw[mapF_get hm]
    simp only[bd_s]
    have fin:∀b:Bool,b=(liveG (s.Panes.take i) p.Pid||p.Life==1)→∃v',(bd (mpPut MK.i o (Value.int IntKind.i64 p.Pid) (Value.bool b)) fun x30=>(some (s,x30,s.Panes,(s.Panes.length:Int),(i:Int)):Option (IState×Obj×List IPane×Int×Int)))=some (s,v',s.Panes,(s.Panes.length:Int),(i:Int))∧MapF v' (liveG (s.Panes.take (i+1))):=by
     intro b hb
     obtain⟨o',e,hm'⟩:=mapF_put hm p.Pid b
     refine⟨o',by rw[e,bd_s],?_⟩
     have:(fun k'=>if k'=p.Pid then b else liveG (s.Panes.take i) k')=liveG (s.Panes.take (i+1)):=by
      funext k'
      rw[htk]
      unfold liveG
      rw[List.any_append,List.any_cons,List.any_nil,Bool.or_false]
      by_cases hk:k'=p.Pid
      ·subst hk
       rw[if_pos rfl,hb]
       unfold liveG
       simp
      ·rw[if_neg hk,show(p.Pid==k')=false by simpa using fun e=>hk e.symm]
       simp
     rw[←this]
     exact hm'
    cases hlf:(p.Life==1)with
    | true=>
     simp only[br_t,bd_s,Bool.true_and]
     cases hg:liveG (s.Panes.take i) p.Pid with
     | true=>simp
     | false=>
      simp only[br_f,Bool.false_eq_true,if_false]
      obtain⟨v',e,hm'⟩:=fin true (by rw[hlf];simp)
      rw[mapF_get hm,hg,bd_s,br_f,hlf,e,bd_s]
      simp only
      rw[h5,gd_t h4]
      exact⟨_,rfl,_,rfl,hm'⟩
    | false=>
     simp only[br_f,bd_s,Bool.false_and,Bool.false_eq_true,if_false]
     rw[mapF_get hm,bd_s]
     cases hg:liveG (s.Panes.take i) p.Pid with
     | true=>
      obtain⟨v',e,hm'⟩:=fin true (by rw[hg];simp)
      rw[br_t,e,bd_s]
      simp only
      rw[h5,gd_t h4]
      exact⟨_,rfl,_,rfl,hm'⟩
     | false=>
      obtain⟨v',e,hm'⟩:=fin false (by rw[hg,hlf];simp)
      rw[br_f,hlf,e,bd_s]
      simp only
      rw[h5,gd_t h4]
      exact⟨_,rfl,_,rfl,hm'⟩
  ·rintro v ⟨o,rfl,hm⟩
   unfold pI_State_panesOk_b1
   simp
 rw[key]
 cases(List.range s.Panes.length).any (badP s)<;>rfl
def pidsL (l:List IPane):List Int:=(l.filter fun q=>q.Life==1).map (·.Pid)
theorem pidsL_any (l:List IPane) (k:Int):((pidsL l).any fun y=>y==k)=liveG l k:=by
 unfold pidsL liveG
 rw[List.any_map,List.any_filter]
 rfl
noncomputable def badQ (s:IState) (i:Nat):Bool:=match s.Panes[i]? with
 | none=>false
 | some p=>((!paneB p||(decide (s.Next≤p.Id)||prevB (s.Panes.map (·.Id)) i p.Id))||(p.Term.S.W !=(areaV s p.Id).1||(p.Term.S.H !=(areaV s p.Id).2||p.Term.S.Limit !=s.Limit)))||(p.Life==1&&liveG (s.Panes.take i) p.Pid)
theorem pS_panes_eq {F:Nat} {s:IState} (h:SF F s):pS_l14Panes (F+70) s=some (!(List.range s.Panes.length).any (badQ s)):=by
 have hfu:=h.f.fu;have hpl:=h.f.pl;have hwl:=h.f.wl
 unfold pS_l14Panes
 have key:loopF (pS_l14Panes_b1 (F+70)) (F+70) (s,[],s.Panes,(s.Panes.length:Int),0)=some (if(List.range s.Panes.length).any (badQ s)then Sum.inr false else Sum.inl ()):=by
  refine loopF_scan (fun i=>(s,pidsL (s.Panes.take i),s.Panes,(s.Panes.length:Int),(i:Int))) s.Panes.length (badQ s) (Sum.inr false) (Sum.inl ()) rfl (fun i hi=> ?_) (by unfold pS_l14Panes_b1;simp) (by omega)
  have hx:s.Panes[i]?=some s.Panes[i]:=qE1 hi
  have hmem:=qM1 hx
  obtain⟨h1,h2,h3,h4,h5⟩:=idx_facts hx (by omega)
  have hpo:=pS_PaneOk_f (h.p _ hmem)
  have htk:=take_succ_get hx
  have hpll:(pidsL (s.Panes.take i)).length≤i:=by
   unfold pidsL
   rw[List.length_map]
   have:=List.length_filter_le (fun q=>q.Life==1) (s.Panes.take i)
   rw[List.length_take]at this
   omega
  generalize s.Panes[i]=p at hx h3 hmem hpo htk
  have hbad:badQ s i=(((!paneB p||(decide (s.Next≤p.Id)||prevB (s.Panes.map (·.Id)) i p.Id))||(p.Term.S.W !=(areaV s p.Id).1||(p.Term.S.H !=(areaV s p.Id).2||p.Term.S.Limit !=s.Limit)))||(p.Life==1&&liveG (s.Panes.take i) p.Pid)):=by unfold badQ;rw[hx]
  have hnext:pidsL (s.Panes.take (i+1))=if(p.Life==1)=true then pidsL (s.Panes.take i)++ [p.Pid]else pidsL (s.Panes.take i):=by
   rw[htk]
   unfold pidsL
   rw[List.filter_append,List.map_append]
   cases hl:(p.Life==1)<;>simp[hl]
  rw[hnext]
  have hr:roomB K.int (pidsL (s.Panes.take i)++ [p.Pid]).length:=roomB_of (by simp;omega) (by decide)
  have hhas:pS_l02HasInt (F+70) (pidsL (s.Panes.take i)) p.Pid=some (liveG (s.Panes.take i) p.Pid):=by rw[hasInt_eq (by omega) (by omega),pidsL_any]
  generalize pidsL (s.Panes.take i)=pd at hhas hr⊢
  have hprev:=prev_step (l:=s.Panes) (g:=(·.Id)) hx (by omega) p.Id (fun b=>some (s,p,pd,s.Panes,(s.Panes.length:Int),(i:Int),b)) (fun x10=>some (s,p,pd,s.Panes,(s.Panes.length:Int),(i:Int),decide (p.Id≤x10.Id))) (fun y=>rfl)
  unfold pS_l14Panes_b1
  simp only[h1,br_t,gd_t h2,h3,bd_s,hpo]
  rw[hprev]
  have hcomb:∀(a b c:Bool),br (!a) (some (s,p,pd,s.Panes,(s.Panes.length:Int),(i:Int),true)) (br b (some (s,p,pd,s.Panes,(s.Panes.length:Int),(i:Int),true)) (some (s,p,pd,s.Panes,(s.Panes.length:Int),(i:Int),c)))=some (s,p,pd,s.Panes,(s.Panes.length:Int),(i:Int),!a||(b||c)):=by
   intro a b c;cases a<;>cases b<;>rfl
  rw[hcomb,bd_s]
  simp only
  generalize (!paneB p||(decide (s.Next≤p.Id)||prevB (s.Panes.map (·.Id)) i p.Id))=c1 at hbad⊢
  cases c1 with
  | true=>rw[hbad];simp
  | false=>
   simp only[br_f,bd_s,Bool.false_or]
   rw[pS_Area_eq h.f,bd_s]
   have hcomb2:∀(a b c:Bool),br a (some (s,p,pd,s.Panes,(s.Panes.length:Int),(i:Int),true)) (br b (some (s,p,pd,s.Panes,(s.Panes.length:Int),(i:Int),true)) (some (s,p,pd,s.Panes,(s.Panes.length:Int),(i:Int),c)))=some (s,p,pd,s.Panes,(s.Panes.length:Int),(i:Int),a||(b||c)):=by
    intro a b c;cases a<;>cases b<;>rfl
   rw[hcomb2,bd_s]
   simp only
   generalize (p.Term.S.W !=(areaV s p.Id).fst||(p.Term.S.H !=(areaV s p.Id).snd||p.Term.S.Limit !=s.Limit))=c2 at hbad⊢
   cases c2 with
   | true=>rw[hbad];simp
   | false=>
    rw[hhas]
    simp only[br_f,Bool.false_or]at hbad⊢
    rw[hbad]
    cases hlf:(p.Life==1)with
    | true=>
     simp only[br_t,bd_s,Bool.true_and]
     cases hg:liveG (s.Panes.take i) p.Pid with
     | true=>simp
     | false=>
      simp only[br_f,gd_t hr]
      rw[hlf,br_t,jn_l]
      simp only
      rw[h5,gd_t h4]
      simp
    | false=>
     simp only[br_f,bd_s,Bool.false_and]
     rw[hlf,br_f,jn_l]
     simp only
     rw[h5,gd_t h4]
     simp
 rw[key]
 cases(List.range s.Panes.length).any (badQ s)<;>rfl
theorem perm_of {a b:List Int} (ha:a.Nodup) (hb:a.length=b.length) (hs:∀x∈a,x∈b):a.Perm b:=by
 induction a generalizing b with
 | nil=>
  cases b with
  | nil=>exact .nil
  | cons y b=>simp at hb
 | cons x a ih=>
  have hx:x∈b:=hs x (List.mem_cons_self ..)
  refine(List.Perm.cons x (ih (b:=b.erase x) (List.nodup_cons.1 ha).2 ?_ fun y hy=> ?_)).trans (List.perm_cons_erase hx).symm
  ·rw[List.length_erase_of_mem hx,←hb];simp
  ·have hne:y≠x:=fun e=>(List.nodup_cons.1 ha).1 (e▸hy)
   exact(List.mem_erase_of_ne hne).2 (hs y (List.mem_cons_of_mem _ hy))
noncomputable def onceB (a b:List Int):Bool:=(a.mergeSort fun x y=>decide (x≤y))==(b.mergeSort fun x y=>decide (x≤y))
theorem once_perm (a b:List Int):onceB a b=true↔a.Perm b:=by
 unfold onceB
 rw[beq_iff_eq]
 constructor
 ·intro h
  exact(List.mergeSort_perm a _).symm.trans (h▸List.mergeSort_perm b _)
 ·intro h
  refine List.Perm.eq_of_pairwise (le:=fun x y=>x≤y) (fun x y _ _ h1 h2=>Int.le_antisymm h1 h2) (sort_pw a) (sort_pw b) ?_
  exact(List.mergeSort_perm a _).trans (h.trans (List.mergeSort_perm b _).symm)
theorem equal_int {fuel:Nat} {a b:List Int} (ha:a.length≤1000000000) (hf:a.length<fuel):pG_slices_Equal_int fuel a b=some (a==b):=by
 unfold pG_slices_Equal_int
 by_cases hl:a.length=b.length
 ·rw[show((a.length:Int) !=(b.length:Int))=false by simp;omega,br_f]
  have key:loopF (pG_slices_Equal_int_b1 fuel) fuel (a,b,(a.length:Int),0)=some (if(List.range a.length).any (fun i=>a[i]? !=b[i]?)then Sum.inr false else Sum.inl ()):=by
   refine loopF_scan (fun i=>(a,b,(a.length:Int),(i:Int))) a.length (fun i=>a[i]? !=b[i]?) (Sum.inr false) (Sum.inl ()) rfl (fun i hi=> ?_) (by unfold pG_slices_Equal_int_b1;simp) hf
   obtain⟨h1,h2,h3,h4,h5⟩:=idx_facts (qE1 hi) (by omega)
   obtain⟨_,g2,g3,_,_⟩:=idx_facts (qE1 (l:=b) (i:=i) (by omega)) (by omega)
   unfold pG_slices_Equal_int_b1
   simp only[h1,br_t,gd_t h2,h3,bd_s,gd_t g2,g3,h5,gd_t h4]
   rw[qE1 hi,qE1 (show i<b.length by omega)]
   have:(a[i] !=b[i]'(by omega))=(some a[i] !=some (b[i]'(by omega))):=by
    rw[Bool.eq_iff_iff];simp
   rw[this]
   cases(some a[i] !=some (b[i]'(by omega)))<;>simp
  rw[key]
  cases h:(List.range a.length).any (fun i=>a[i]? !=b[i]?)with
  | true=>
   obtain⟨i,_,hi⟩:=List.any_eq_true.1 h
   have:(a==b)=false:=by
    rw[beq_eq_false_iff_ne]
    intro e;subst e;simp at hi
   rw[this];rfl
  | false=>
   have:(a==b)=true:=by
    rw[beq_iff_eq]
    refine List.ext_getElem? fun i=> ?_
    by_cases hi:i<a.length
    ·have:=List.any_eq_false.1 h i (List.mem_range.2 hi)
     simpa using this
    ·rw[List.getElem?_eq_none (by omega),List.getElem?_eq_none (by omega)]
   rw[this];rfl
 ·rw[show((a.length:Int) !=(b.length:Int))=true by simp;omega,br_t]
  rw[show(a==b)=false by rw[beq_eq_false_iff_ne];intro e;exact hl (by rw[e])]
theorem pI_once_eq {fuel:Nat} {a b:List Int} (ha:a.length≤1048576) (hb:b.length≤1048576) (hf:1048576<fuel):pI_once fuel a b=some (onceB a b):=by
 unfold pI_once
 rw[clone_int (roomB_of (by omega) (by decide)),bd_s,clone_int (roomB_of (by omega) (by decide)),bd_s,sort_ok ha,bd_s,sort_ok hb,bd_s,equal_int (by rw[List.length_mergeSort];omega) (by rw[List.length_mergeSort];omega),bd_s]
 rfl
structure SG (F:Nat) (s:IState):Prop where
 f:SF F s
 al:(s.Wins.flatMap fun w=>w.Tree).length≤1048576
 sg:(s.Sess.flatMap fun x=>x.Wins).length≤1048576
def lvw (l:List IWin):List Int:=l.flatMap fun w=>lvs w.Tree
def ssw (l:List ISess):List Int:=l.flatMap fun x=>x.Wins
theorem lvw_len:∀(l:List IWin),(lvw l).length≤(l.flatMap fun w=>w.Tree).length
 | []=>by simp[lvw]
 | w::l=>by
  have:=lvw_len l
  have:=lvs_len w.Tree
  unfold lvw at *
  rw[List.flatMap_cons,List.flatMap_cons,List.length_append,List.length_append]
  omega
theorem flat_take {α β:Type} (g:α→List β) (l:List α) (i:Nat):((l.take i).flatMap g).length≤(l.flatMap g).length:=by
 conv=>rhs;rw[←List.take_append_drop i l,List.flatMap_append,List.length_append]
 omega
theorem lvw_succ {l:List IWin} {i:Nat} {w:IWin} (h:l[i]?=some w):lvw (l.take (i+1))=lvw (l.take i)++lvs w.Tree:=by
 unfold lvw;rw[take_succ_get h,List.flatMap_append];simp
theorem ssw_succ {l:List ISess} {i:Nat} {x:ISess} (h:l[i]?=some x):ssw (l.take (i+1))=ssw (l.take i)++x.Wins:=by
 unfold ssw;rw[take_succ_get h,List.flatMap_append];simp
noncomputable def badW1 (s:IState) (i:Nat):Bool:=match s.Wins[i]? with
 | none=>false
 | some w=>decide (w.Id<1)||(decide (s.Next≤w.Id)||(prevB (s.Wins.map (·.Id)) i w.Id||(!wordB w.Name||(!(placesV w.Tree s.W s.H).2|| !((lvs w.Tree).any fun y=>y==w.Active)))))
noncomputable def badW2 (s:IState) (i:Nat):Bool:=match s.Wins[i]? with
 | none=>false
 | some w=> !(placesV w.Tree s.W s.H).2||(decide (w.Id<1)||(decide (s.Next≤w.Id)||(prevB (s.Wins.map (·.Id)) i w.Id||((s.Panes.any fun y=>y.Id==w.Id)||(!wordB w.Name|| !((leavesV w.Tree).any fun y=>y==w.Active))))))
theorem placesV_true {t:List INode} {w h:Int} (hh:(placesV t w h).2=true):treeB t=true:=by
 unfold placesV at hh
 split at hh
 ·rename_i h;exact h.1
 ·cases hh
theorem winsOk_b1 {F:Nat} {s:IState} (h:SG F s):loopF (pI_State_winsOk_b1 (F+70)) (F+70) (s,[],[],s.Wins,(s.Wins.length:Int),0)=some (if(List.range s.Wins.length).any (badW1 s)then Sum.inr false else Sum.inl (s,lvw s.Wins,[])):=by
 have hfu:=h.f.f.fu;have hpl:=h.f.f.pl;have hwl:=h.f.f.wl
 have he:(lvw (s.Wins.take s.Wins.length))=lvw s.Wins:=by rw[List.take_length]
 rw[←he]
 refine loopF_scan (fun i=>(s,lvw (s.Wins.take i),[],s.Wins,(s.Wins.length:Int),(i:Int))) s.Wins.length (badW1 s) (Sum.inr false) (Sum.inl (s,lvw (s.Wins.take s.Wins.length),[])) rfl (fun i hi=> ?_) (by unfold pI_State_winsOk_b1;simp) (by omega)
 have hx:s.Wins[i]?=some s.Wins[i]:=qE1 hi
 have hmem:=qM1 hx
 obtain⟨h1,h2,h3,h4,h5⟩:=idx_facts hx (by omega)
 have hsum:(lvw (s.Wins.take (i+1))).length≤1048576:=Nat.le_trans (lvw_len _) (Nat.le_trans (flat_take _ _ _) h.al)
 have ht:=h.f.f.tr _ hmem
 have hn:=h.f.f.nm _ hmem
 have hll:=lvs_len s.Wins[i].Tree
 have hsucc:=lvw_succ hx
 rw[hsucc]at hsum
 have hr:roomB K.int (lvw (s.Wins.take i)++lvs s.Wins[i].Tree).length:=roomB_of (by omega) (by decide)
 rw[hsucc]
 generalize lvw (s.Wins.take i)=A at hr⊢
 have hbad:badW1 s i=(decide (s.Wins[i].Id<1)||(decide (s.Next≤s.Wins[i].Id)||(prevB (s.Wins.map (·.Id)) i s.Wins[i].Id||(!wordB s.Wins[i].Name||(!(placesV s.Wins[i].Tree s.W s.H).2|| !((lvs s.Wins[i].Tree).any fun y=>y==s.Wins[i].Active)))))):=by unfold badW1;rw[hx]
 generalize s.Wins[i]=w at hx h3 hmem ht hn hll hr hbad⊢
 have hpl:=pI_Places_eq (fuel:=F+70) (t:=w.Tree) (w:=s.W) (h:=s.H) (by omega)
 have hwo:=pI_WordOk_eq (fuel:=F+70) (s:=w.Name) (by omega) (by omega)
 have hle:=pI_leaves_eq (fuel:=F+70) (t:=w.Tree) (by omega) (by omega)
 have hco:=contains_int (fuel:=F+70) (l:=lvs w.Tree) (n:=w.Active) (by omega) (by omega)
 have hprev:=prev_step (l:=s.Wins) (g:=(·.Id)) hx (by omega) w.Id
  (fun b=>br b (some (s,w,A,([]:List Int),s.Wins,(s.Wins.length:Int),(i:Int),true)) (br (!wordB w.Name) (some (s,w,A,[],s.Wins,(s.Wins.length:Int),(i:Int),true)) (br (!(placesV w.Tree s.W s.H).2) (some (s,w,A,[],s.Wins,(s.Wins.length:Int),(i:Int),true)) (some (s,w,A,[],s.Wins,(s.Wins.length:Int),(i:Int),!((lvs w.Tree).any fun y=>y==w.Active))))))
  (fun x=>br (decide (w.Id≤x.Id)) (some (s,w,A,([]:List Int),s.Wins,(s.Wins.length:Int),(i:Int),true)) (br (!wordB w.Name) (some (s,w,A,[],s.Wins,(s.Wins.length:Int),(i:Int),true)) (br (!(placesV w.Tree s.W s.H).2) (some (s,w,A,[],s.Wins,(s.Wins.length:Int),(i:Int),true)) (some (s,w,A,[],s.Wins,(s.Wins.length:Int),(i:Int),!((lvs w.Tree).any fun y=>y==w.Active)))))) (fun y=>rfl)
 simp only[br_f]at hprev
 unfold pI_State_winsOk_b1
 simp only[h1,br_t,gd_t h2,h3,bd_s,hpl,hwo,hle,hco]
 rw[hprev]
 have hcomb:∀a b c d e f:Bool,br a (some (s,w,A,([]:List Int),s.Wins,(s.Wins.length:Int),(i:Int),true)) (br b (some (s,w,A,[],s.Wins,(s.Wins.length:Int),(i:Int),true)) (br c (some (s,w,A,([]:List Int),s.Wins,(s.Wins.length:Int),(i:Int),true)) (br (!d) (some (s,w,A,[],s.Wins,(s.Wins.length:Int),(i:Int),true)) (br (!e) (some (s,w,A,[],s.Wins,(s.Wins.length:Int),(i:Int),true)) (some (s,w,A,[],s.Wins,(s.Wins.length:Int),(i:Int),!f))))))=some (s,w,A,[],s.Wins,(s.Wins.length:Int),(i:Int),a||(b||(c||(!d||(!e|| !f))))):=by
  intro a b c d e f;cases a<;>cases b<;>cases c<;>cases d<;>cases e<;>rfl
 rw[hcomb,bd_s,←hbad]
 cases badW1 s i with
 | true=>simp
 | false=>
  simp only[br_f]
  rw[hle,bd_s,h5,gd_t hr,gd_t h4]
  simp
theorem winsOk_b2 {F:Nat} {s:IState} (h:SG F s) (A:List Int):loopF (pI_State_winsOk_b2 (F+70)) (F+70) (s,A,[],s.Panes,(s.Panes.length:Int),0)=some (s,A,s.Panes.map (·.Id)):=by
 have hfu:=h.f.f.fu;have hpl:=h.f.f.pl;have hwl:=h.f.f.wl
 refine loopF_run (B:=pI_State_winsOk_b2 (F+70)) (fuel:=F+70) (fun i=>(s,A,(s.Panes.take i).map (·.Id),s.Panes,(s.Panes.length:Int),(i:Int))) s.Panes.length (s,A,s.Panes.map (·.Id)) rfl (fun i hi=> ?_) (by unfold pI_State_winsOk_b2;simp) (by omega)
 obtain⟨h1,h2,h3,h4,h5⟩:=idx_facts (qE1 hi) (by omega)
 have hr:roomB K.int ((s.Panes.take i).map (·.Id)++ [s.Panes[i].Id]).length:=roomB_of (by simp;omega) (by decide)
 unfold pI_State_winsOk_b2
 simp only[h1,br_t,gd_t h2,h3,bd_s,gd_t hr,h5,gd_t h4]
 rw[take_succ_get (qE1 hi),List.map_append]
 rfl
theorem pI_winsOk_eq {F:Nat} {s:IState} (h:SG F s):pI_State_winsOk (F+70) s=some (!(List.range s.Wins.length).any (badW1 s)&&(decide ((s.Wins.length:Int)≤12)&&onceB (lvw s.Wins) (s.Panes.map (·.Id)))):=by
 have hfu:=h.f.f.fu;have hpl:=h.f.f.pl;have hwl:=h.f.f.wl
 have hA:(lvw s.Wins).length≤1048576:=Nat.le_trans (lvw_len _) h.al
 unfold pI_State_winsOk
 rw[winsOk_b1 h]
 cases(List.range s.Wins.length).any (badW1 s)with
 | true=>rfl
 | false=>
  simp only[Bool.false_eq_true,if_false,jn_l]
  rw[winsOk_b2 h,bd_s,pI_once_eq hA (by simp;omega) (by omega)]
  cases decide ((s.Wins.length:Int)≤12)<;>rfl
theorem l14Wins_b1 {F:Nat} {s:IState} (h:SG F s):loopF (pS_l14Wins_b1 (F+70)) (F+70) (s,[],s.Wins,(s.Wins.length:Int),0)=some (if(List.range s.Wins.length).any (badW2 s)then Sum.inr false else Sum.inl (s,lvw s.Wins)):=by
 have hfu:=h.f.f.fu;have hpl:=h.f.f.pl;have hwl:=h.f.f.wl
 have he:(lvw (s.Wins.take s.Wins.length))=lvw s.Wins:=by rw[List.take_length]
 rw[←he]
 refine loopF_scan (fun i=>(s,lvw (s.Wins.take i),s.Wins,(s.Wins.length:Int),(i:Int))) s.Wins.length (badW2 s) (Sum.inr false) (Sum.inl (s,lvw (s.Wins.take s.Wins.length))) rfl (fun i hi=> ?_) (by unfold pS_l14Wins_b1;simp) (by omega)
 have hx:s.Wins[i]?=some s.Wins[i]:=qE1 hi
 have hmem:=qM1 hx
 obtain⟨h1,h2,h3,h4,h5⟩:=idx_facts hx (by omega)
 have hsum:(lvw (s.Wins.take (i+1))).length≤1048576:=Nat.le_trans (lvw_len _) (Nat.le_trans (flat_take _ _ _) h.al)
 have ht:=h.f.f.tr _ hmem
 have hn:=h.f.f.nm _ hmem
 have hsucc:=lvw_succ hx
 rw[hsucc]at hsum
 have hr:roomB K.int (lvw (s.Wins.take i)++lvs s.Wins[i].Tree).length:=roomB_of (by omega) (by decide)
 rw[hsucc]
 generalize lvw (s.Wins.take i)=A at hr⊢
 have hbad:badW2 s i=(!(placesV s.Wins[i].Tree s.W s.H).2||(decide (s.Wins[i].Id<1)||(decide (s.Next≤s.Wins[i].Id)||(prevB (s.Wins.map (·.Id)) i s.Wins[i].Id||((s.Panes.any fun y=>y.Id==s.Wins[i].Id)||(!wordB s.Wins[i].Name|| !((leavesV s.Wins[i].Tree).any fun y=>y==s.Wins[i].Active))))))):=by unfold badW2;rw[hx]
 generalize s.Wins[i]=w at hx h3 hmem ht hn hr hbad⊢
 have hlv:=leavesV_len w.Tree
 have hpl':=pS_Places_eq (fuel:=F+70) (t:=w.Tree) (w:=s.W) (h:=s.H) (by omega)
 have hwo:=pS_WordOk_eq (fuel:=F+70) (s:=w.Name) (by omega) (by omega)
 have hle:=pS_Leaves_eq (fuel:=F+70) (t:=w.Tree) (by omega)
 have hco:=hasInt_eq (fuel:=F+70) (l:=leavesV w.Tree) (n:=w.Active) (by omega) (by omega)
 have hpa:=pS_PaneAt_eq (fuel:=F+70) (s:=s) (n:=w.Id) (by omega) (by omega)
 have hprev:=prev_step (l:=s.Wins) (g:=(·.Id)) hx (by omega) w.Id
  (fun b=>br b (some (s,w,A,s.Wins,(s.Wins.length:Int),(i:Int),true)) (br (s.Panes.any fun y=>y.Id==w.Id) (some (s,w,A,s.Wins,(s.Wins.length:Int),(i:Int),true)) (br (!wordB w.Name) (some (s,w,A,s.Wins,(s.Wins.length:Int),(i:Int),true)) (some (s,w,A,s.Wins,(s.Wins.length:Int),(i:Int),!((leavesV w.Tree).any fun y=>y==w.Active))))))
  (fun x=>br (decide (w.Id≤x.Id)) (some (s,w,A,s.Wins,(s.Wins.length:Int),(i:Int),true)) (br (s.Panes.any fun y=>y.Id==w.Id) (some (s,w,A,s.Wins,(s.Wins.length:Int),(i:Int),true)) (br (!wordB w.Name) (some (s,w,A,s.Wins,(s.Wins.length:Int),(i:Int),true)) (some (s,w,A,s.Wins,(s.Wins.length:Int),(i:Int),!((leavesV w.Tree).any fun y=>y==w.Active)))))) (fun y=>rfl)
 simp only[br_f]at hprev
 unfold pS_l14Wins_b1
 simp only[h1,br_t,gd_t h2,h3,bd_s,hpl',hwo,hle,hco,hpa,atV_nonneg]
 rw[hprev]
 have hcomb:∀a b c d e f g:Bool,br (!a) (some (s,w,A,s.Wins,(s.Wins.length:Int),(i:Int),true)) (br b (some (s,w,A,s.Wins,(s.Wins.length:Int),(i:Int),true)) (br c (some (s,w,A,s.Wins,(s.Wins.length:Int),(i:Int),true)) (br d (some (s,w,A,s.Wins,(s.Wins.length:Int),(i:Int),true)) (br e (some (s,w,A,s.Wins,(s.Wins.length:Int),(i:Int),true)) (br (!f) (some (s,w,A,s.Wins,(s.Wins.length:Int),(i:Int),true)) (some (s,w,A,s.Wins,(s.Wins.length:Int),(i:Int),!g)))))))=some (s,w,A,s.Wins,(s.Wins.length:Int),(i:Int),!a||(b||(c||(d||(e||(!f|| !g)))))):=by
  intro a b c d e f g;cases a<;>cases b<;>cases c<;>cases d<;>cases e<;>cases f<;>rfl
 rw[hcomb,bd_s,←hbad]
 cases hb:badW2 s i with
 | true=>simp
 | false=>
  have hp:(placesV w.Tree s.W s.H).2=true:=by
   rw[hb]at hbad
   cases hp:(placesV w.Tree s.W s.H).2 with
   | true=>rfl
   | false=>rw[hp]at hbad;simp at hbad
  have hl:leavesV w.Tree=lvs w.Tree:=by unfold leavesV;rw[if_pos (placesV_true hp)]
  simp only[br_f]
  rw[hle,bd_s,h5,hl,gd_t hr,gd_t h4]
  simp
def badU (all ids:List Int) (i:Nat):Bool:=match all[i]? with
 | none=>false
 | some x=>((all.take i).any fun y=>y==x)|| !(ids.any fun y=>y==x)
theorem viewL_take {l:List Int} {i:Nat}:viewL false l (0+0) ((i:Int).toNat-0)=l.take i:=by
 unfold viewL
 simp
theorem l14Wins_b2 {F:Nat} {s:IState} (h:SG F s) {A:List Int} (hA:A.length≤1048576):loopF (pS_l14Wins_b2 (F+70)) (F+70) (s,A,(A.length:Int),0)=some (if(List.range A.length).any (badU A (s.Panes.map (·.Id)))then Sum.inr false else Sum.inl (s,A)):=by
 have hfu:=h.f.f.fu;have hpl:=h.f.f.pl;have hwl:=h.f.f.wl
 refine loopF_scan (B:=pS_l14Wins_b2 (F+70)) (fuel:=F+70) (fun i=>(s,A,(A.length:Int),(i:Int))) A.length (badU A (s.Panes.map (·.Id))) (Sum.inr false) (Sum.inl (s,A)) rfl (fun i hi=> ?_) (by unfold pS_l14Wins_b2;simp) (by omega)
 have hx:A[i]?=some A[i]:=qE1 hi
 obtain⟨h1,h2,h3,h4,h5⟩:=idx_facts hx (by omega)
 have hbad:badU A (s.Panes.map (·.Id)) i=(((A.take i).any fun y=>y==A[i])|| !(s.Panes.any fun y=>y.Id==A[i])):=by
  unfold badU;rw[hx];simp only[List.any_map];rfl
 generalize A[i]=x at hx h3 hbad
 have hco:=hasInt_eq (fuel:=F+70) (l:=A.take i) (n:=x) (by rw[List.length_take];omega) (by rw[List.length_take];omega)
 have hpa:=pS_PaneAt_eq (fuel:=F+70) (s:=s) (n:=x) (by omega) (by omega)
 unfold pS_l14Wins_b2
 simp only[h1,br_t,gd_t h2,Nat.zero_add,h3,bd_s,gd_p (show(0:Int)≤(i:Int)∧(i:Int)≤(A.length:Int)from⟨by omega,by omega⟩)]
 rw[show viewL false A 0 ((i:Int).toNat-0)=A.take i from viewL_take,hco,bd_s,hpa,bd_s,atV_neg]
 have hcomb:∀a b:Bool,br a (some (s,A,(A.length:Int),(i:Int),true)) (some (s,A,(A.length:Int),(i:Int),!b))=some (s,A,(A.length:Int),(i:Int),a|| !b):=by
  intro a b;cases a<;>rfl
 rw[hcomb,bd_s,←hbad]
 cases badU A (s.Panes.map (·.Id)) i with
 | true=>simp
 | false=>simp only[br_f];rw[h5,gd_t h4];simp
theorem pS_l14Wins_eq {F:Nat} {s:IState} (h:SG F s):pS_l14Wins (F+70) s=some (!(List.range s.Wins.length).any (badW2 s)&&(!(List.range (lvw s.Wins).length).any (badU (lvw s.Wins) (s.Panes.map (·.Id)))&&((lvw s.Wins).length:Int)==(s.Panes.length:Int))):=by
 have hA:(lvw s.Wins).length≤1048576:=Nat.le_trans (lvw_len _) h.al
 unfold pS_l14Wins
 rw[l14Wins_b1 h]
 cases(List.range s.Wins.length).any (badW2 s)with
 | true=>rfl
 | false=>
  simp only[Bool.false_eq_true,if_false,jn_l]
  rw[l14Wins_b2 h hA]
  cases(List.range (lvw s.Wins).length).any (badU (lvw s.Wins) (s.Panes.map (·.Id)))<;>rfl
noncomputable def badX (s:IState) (i:Nat):Bool:=match s.Sess[i]? with
 | none=>false
 | some x=> !wordB x.Name||(atV (fun y=>decide (y.Name=x.Name)) s.Sess !=(i:Int)|| !(x.Wins.any fun y=>y==x.Active))
theorem ssw_len {F:Nat} {s:IState} (h:SG F s) (i:Nat):(ssw (s.Sess.take i)).length≤1048576:=Nat.le_trans (flat_take _ _ _) h.sg
theorem sessOk_b1 {F:Nat} {s:IState} (h:SG F s):loopF (pI_State_sessOk_b1 (F+70)) (F+70) (s,[],[],s.Sess,(s.Sess.length:Int),0)=some (if(List.range s.Sess.length).any (badX s)then Sum.inr false else Sum.inl (s,ssw s.Sess,[])):=by
 have hfu:=h.f.f.fu;have hpl:=h.f.f.pl;have hsl:=h.f.f.sl
 have he:(ssw (s.Sess.take s.Sess.length))=ssw s.Sess:=by rw[List.take_length]
 rw[←he]
 refine loopF_scan (fun i=>(s,ssw (s.Sess.take i),[],s.Sess,(s.Sess.length:Int),(i:Int))) s.Sess.length (badX s) (Sum.inr false) (Sum.inl (s,ssw (s.Sess.take s.Sess.length),[])) rfl (fun i hi=> ?_) (by unfold pI_State_sessOk_b1;simp) (by omega)
 have hx:s.Sess[i]?=some s.Sess[i]:=qE1 hi
 have hmem:=qM1 hx
 obtain⟨h1,h2,h3,h4,h5⟩:=idx_facts hx (by omega)
 have hsum:=ssw_len h (i+1)
 have hn:=h.f.f.sn _ hmem
 have hw:=h.f.f.sw _ hmem
 have hsucc:=ssw_succ hx
 rw[hsucc]at hsum⊢
 have hr:roomB K.int (ssw (s.Sess.take i)++s.Sess[i].Wins).length:=roomB_of (by omega) (by decide)
 generalize ssw (s.Sess.take i)=A at hr⊢
 have hbad:badX s i=(!wordB s.Sess[i].Name||(atV (fun y=>decide (y.Name=s.Sess[i].Name)) s.Sess !=(i:Int)|| !(s.Sess[i].Wins.any fun y=>y==s.Sess[i].Active))):=by unfold badX;rw[hx]
 generalize s.Sess[i]=x at hx h3 hmem hn hw hr hbad⊢
 have hwo:=pI_WordOk_eq (fuel:=F+70) (s:=x.Name) (by omega) (by omega)
 have hsa:=pI_SessAt_eq (fuel:=F+70) (s:=s) (n:=x.Name) (by omega) (by omega)
 have hco:=contains_int (fuel:=F+70) (l:=x.Wins) (n:=x.Active) (by omega) (by omega)
 unfold pI_State_sessOk_b1
 simp only[h1,br_t,gd_t h2,h3,bd_s,hwo,hsa,hco]
 have hcomb:∀a b c:Bool,br (!a) (some (s,x,A,([]:List Int),s.Sess,(s.Sess.length:Int),(i:Int),true)) (br b (some (s,x,A,[],s.Sess,(s.Sess.length:Int),(i:Int),true)) (some (s,x,A,[],s.Sess,(s.Sess.length:Int),(i:Int),!c)))=some (s,x,A,[],s.Sess,(s.Sess.length:Int),(i:Int),!a||(b|| !c)):=by
  intro a b c;cases a<;>cases b<;>rfl
 rw[hcomb,bd_s,←hbad]
 cases badX s i with
 | true=>simp
 | false=>
  simp only[br_f]
  rw[h5,gd_t hr,gd_t h4]
  simp
theorem sessOk_b2 {F:Nat} {s:IState} (h:SG F s) (A:List Int):loopF (pI_State_sessOk_b2 (F+70)) (F+70) (s,A,[],s.Wins,(s.Wins.length:Int),0)=some (s,A,s.Wins.map (·.Id)):=by
 have hfu:=h.f.f.fu;have hpl:=h.f.f.pl;have hwl:=h.f.f.wl
 refine loopF_run (B:=pI_State_sessOk_b2 (F+70)) (fuel:=F+70) (fun i=>(s,A,(s.Wins.take i).map (·.Id),s.Wins,(s.Wins.length:Int),(i:Int))) s.Wins.length (s,A,s.Wins.map (·.Id)) rfl (fun i hi=> ?_) (by unfold pI_State_sessOk_b2;simp) (by omega)
 obtain⟨h1,h2,h3,h4,h5⟩:=idx_facts (qE1 hi) (by omega)
 have hr:roomB K.int ((s.Wins.take i).map (·.Id)++ [s.Wins[i].Id]).length:=roomB_of (by simp;omega) (by decide)
 unfold pI_State_sessOk_b2
 simp only[h1,br_t,gd_t h2,h3,bd_s,gd_t hr,h5,gd_t h4]
 rw[take_succ_get (qE1 hi),List.map_append]
 rfl
theorem pI_sessOk_eq {F:Nat} {s:IState} (h:SG F s):pI_State_sessOk (F+70) s=some (!(List.range s.Sess.length).any (badX s)&&(decide ((s.Sess.length:Int)≤8)&&onceB (ssw s.Sess) (s.Wins.map (·.Id)))):=by
 have hfu:=h.f.f.fu;have hpl:=h.f.f.pl;have hwl:=h.f.f.wl
 unfold pI_State_sessOk
 rw[sessOk_b1 h]
 cases(List.range s.Sess.length).any (badX s)with
 | true=>rfl
 | false=>
  simp only[Bool.false_eq_true,if_false,jn_l]
  have hsg:(ssw s.Sess).length≤1048576:=h.sg
  rw[sessOk_b2 h,bd_s,pI_once_eq hsg (by simp;omega) (by omega)]
  cases decide ((s.Sess.length:Int)≤8)<;>rfl
theorem l14Sess_b1 {F:Nat} {s:IState} (h:SG F s):loopF (pS_l14Sess_b1 (F+70)) (F+70) (s,[],s.Sess,(s.Sess.length:Int),0)=some (if(List.range s.Sess.length).any (badX s)then Sum.inr false else Sum.inl (s,ssw s.Sess)):=by
 have hfu:=h.f.f.fu;have hpl:=h.f.f.pl;have hsl:=h.f.f.sl
 have he:(ssw (s.Sess.take s.Sess.length))=ssw s.Sess:=by rw[List.take_length]
 rw[←he]
 refine loopF_scan (fun i=>(s,ssw (s.Sess.take i),s.Sess,(s.Sess.length:Int),(i:Int))) s.Sess.length (badX s) (Sum.inr false) (Sum.inl (s,ssw (s.Sess.take s.Sess.length))) rfl (fun i hi=> ?_) (by unfold pS_l14Sess_b1;simp) (by omega)
 have hx:s.Sess[i]?=some s.Sess[i]:=qE1 hi
 have hmem:=qM1 hx
 obtain⟨h1,h2,h3,h4,h5⟩:=idx_facts hx (by omega)
 have hsum:=ssw_len h (i+1)
 have hn:=h.f.f.sn _ hmem
 have hw:=h.f.f.sw _ hmem
 have hsucc:=ssw_succ hx
 rw[hsucc]at hsum⊢
 have hr:roomB K.int (ssw (s.Sess.take i)++s.Sess[i].Wins).length:=roomB_of (by omega) (by decide)
 generalize ssw (s.Sess.take i)=A at hr⊢
 have hbad:badX s i=(!wordB s.Sess[i].Name||(atV (fun y=>decide (y.Name=s.Sess[i].Name)) s.Sess !=(i:Int)|| !(s.Sess[i].Wins.any fun y=>y==s.Sess[i].Active))):=by unfold badX;rw[hx]
 generalize s.Sess[i]=x at hx h3 hmem hn hw hr hbad⊢
 have hwo:=pS_WordOk_eq (fuel:=F+70) (s:=x.Name) (by omega) (by omega)
 have hsa:=pS_SessAt_eq (fuel:=F+70) (s:=s) (n:=x.Name) (by omega) (by omega)
 have hco:=hasInt_eq (fuel:=F+70) (l:=x.Wins) (n:=x.Active) (by omega) (by omega)
 unfold pS_l14Sess_b1
 simp only[h1,br_t,gd_t h2,h3,bd_s,hwo,hsa,hco]
 have hcomb:∀a b c:Bool,br (!a) (some (s,x,A,s.Sess,(s.Sess.length:Int),(i:Int),true)) (br b (some (s,x,A,s.Sess,(s.Sess.length:Int),(i:Int),true)) (some (s,x,A,s.Sess,(s.Sess.length:Int),(i:Int),!c)))=some (s,x,A,s.Sess,(s.Sess.length:Int),(i:Int),!a||(b|| !c)):=by
  intro a b c;cases a<;>cases b<;>rfl
 rw[hcomb,bd_s,←hbad]
 cases badX s i with
 | true=>simp
 | false=>
  simp only[br_f]
  rw[h5,gd_t hr,gd_t h4]
  simp
theorem l14Sess_b2 {F:Nat} {s:IState} (h:SG F s) {A:List Int} (hA:A.length≤1048576):loopF (pS_l14Sess_b2 (F+70)) (F+70) (s,A,(A.length:Int),0)=some (if(List.range A.length).any (badU A (s.Wins.map (·.Id)))then Sum.inr false else Sum.inl (s,A)):=by
 have hfu:=h.f.f.fu;have hpl:=h.f.f.pl;have hwl:=h.f.f.wl
 refine loopF_scan (B:=pS_l14Sess_b2 (F+70)) (fuel:=F+70) (fun i=>(s,A,(A.length:Int),(i:Int))) A.length (badU A (s.Wins.map (·.Id))) (Sum.inr false) (Sum.inl (s,A)) rfl (fun i hi=> ?_) (by unfold pS_l14Sess_b2;simp) (by omega)
 have hx:A[i]?=some A[i]:=qE1 hi
 obtain⟨h1,h2,h3,h4,h5⟩:=idx_facts hx (by omega)
 have hbad:badU A (s.Wins.map (·.Id)) i=(((A.take i).any fun y=>y==A[i])|| !(s.Wins.any fun y=>y.Id==A[i])):=by
  unfold badU;rw[hx];simp only[List.any_map];rfl
 generalize A[i]=x at hx h3 hbad
 have hco:=hasInt_eq (fuel:=F+70) (l:=A.take i) (n:=x) (by rw[List.length_take];omega) (by rw[List.length_take];omega)
 have hpa:=pS_WinAt_eq (fuel:=F+70) (s:=s) (n:=x) (by omega) (by omega)
 unfold pS_l14Sess_b2
 simp only[h1,br_t,gd_t h2,Nat.zero_add,h3,bd_s,gd_p (show(0:Int)≤(i:Int)∧(i:Int)≤(A.length:Int)from⟨by omega,by omega⟩)]
 rw[show viewL false A 0 ((i:Int).toNat-0)=A.take i from viewL_take,hco,bd_s,hpa,bd_s,atV_neg]
 have hcomb:∀a b:Bool,br a (some (s,A,(A.length:Int),(i:Int),true)) (some (s,A,(A.length:Int),(i:Int),!b))=some (s,A,(A.length:Int),(i:Int),a|| !b):=by
  intro a b;cases a<;>rfl
 rw[hcomb,bd_s,←hbad]
 cases badU A (s.Wins.map (·.Id)) i with
 | true=>simp
 | false=>simp only[br_f];rw[h5,gd_t h4];simp
theorem pS_l14Sess_eq {F:Nat} {s:IState} (h:SG F s):pS_l14Sess (F+70) s=some (!(List.range s.Sess.length).any (badX s)&&(!(List.range (ssw s.Sess).length).any (badU (ssw s.Sess) (s.Wins.map (·.Id)))&&((ssw s.Sess).length:Int)==(s.Wins.length:Int))):=by
 unfold pS_l14Sess
 rw[l14Sess_b1 h]
 cases(List.range s.Sess.length).any (badX s)with
 | true=>rfl
 | false=>
  simp only[Bool.false_eq_true,if_false,jn_l]
  have hsg:(ssw s.Sess).length≤1048576:=h.sg
  rw[l14Sess_b2 h hsg]
  cases(List.range (ssw s.Sess).length).any (badU (ssw s.Sess) (s.Wins.map (·.Id)))<;>rfl
theorem any_range {n:Nat} {bad:Nat→Bool}:(List.range n).any bad=false↔∀i,i<n→bad i=false:=by
 rw[List.any_eq_false]
 constructor
 ·intro h i hi
  have:=h i (List.mem_range.2 hi)
  simpa using this
 ·intro h i hi
  rw[h i (List.mem_range.1 hi)];simp
def PanOk (s:IState):Prop:=∀i p,s.Panes[i]?=some p→paneB p=true∧p.Id<s.Next∧prevB (s.Panes.map (·.Id)) i p.Id=false∧p.Term.S.Limit=s.Limit∧(p.Life==1&&liveG (s.Panes.take i) p.Pid)=false
def DisOk (s:IState):Prop:=∀p∈s.Panes,∀w∈s.Wins,w.Id≠p.Id
def AreaOk (s:IState):Prop:=∀p∈s.Panes,p.Term.S.W=(areaV s p.Id).1∧p.Term.S.H=(areaV s p.Id).2
def WnOk (s:IState):Prop:=∀i w,s.Wins[i]?=some w→(placesV w.Tree s.W s.H).2=true∧1≤w.Id∧w.Id<s.Next∧prevB (s.Wins.map (·.Id)) i w.Id=false∧wordB w.Name=true∧((lvs w.Tree).any fun y=>y==w.Active)=true
theorem badP_iff (s:IState):(List.range s.Panes.length).any (badP s)=false↔PanOk s∧DisOk s:=by
 rw[any_range]
 constructor
 ·intro h
  have h':∀i p,s.Panes[i]?=some p→_:=fun i p hp=>by
   have h1:=h i (qS1.1 hp).1
   unfold badP at h1
   rw[hp]at h1
   simp only[Bool.or_eq_false_iff,Bool.not_eq_false',decide_eq_false_iff_not,Int.not_le,bne_eq_false_iff_eq]at h1
   exact h1
  refine⟨fun i p hp=> ?_,fun p hp w hw e=> ?_⟩
  ·obtain⟨⟨a,b,c,d,e⟩,f⟩:=h' i p hp
   exact⟨a,b,c,e,f⟩
  ·obtain⟨i,hi⟩:=List.getElem?_of_mem hp
   obtain⟨⟨a,b,c,d,_⟩,f⟩:=h' i p hi
   exact absurd (beq_iff_eq.2 e) (List.any_eq_false.1 d w hw)
 ·rintro⟨h,hd⟩ i hi
  have hp:s.Panes[i]?=some s.Panes[i]:=qE1 hi
  obtain⟨a,b,c,e,f⟩:=h i _ hp
  unfold badP
  rw[hp]
  simp only[Bool.or_eq_false_iff,Bool.not_eq_false',decide_eq_false_iff_not,Int.not_le,bne_eq_false_iff_eq]
  exact⟨⟨a,b,c,List.any_eq_false.2 fun w hw=>by simpa using hd _ (List.getElem_mem hi) w hw,e⟩,f⟩
theorem badQ_iff (s:IState):(List.range s.Panes.length).any (badQ s)=false↔PanOk s∧AreaOk s:=by
 rw[any_range]
 constructor
 ·intro h
  have h':∀i p,s.Panes[i]?=some p→_:=fun i p hp=>by
   have h1:=h i (qS1.1 hp).1
   unfold badQ at h1
   rw[hp]at h1
   simp only[Bool.or_eq_false_iff,Bool.not_eq_false',decide_eq_false_iff_not,Int.not_le,bne_eq_false_iff_eq]at h1
   exact h1
  refine⟨fun i p hp=> ?_,fun p hp=> ?_⟩
  ·obtain⟨⟨⟨a,b,c⟩,d,e,g⟩,f⟩:=h' i p hp
   exact⟨a,b,c,g,f⟩
  ·obtain⟨i,hi⟩:=List.getElem?_of_mem hp
   obtain⟨⟨⟨a,b,c⟩,d,e,g⟩,f⟩:=h' i p hi
   exact⟨d,e⟩
 ·rintro⟨h,hd⟩ i hi
  have hp:s.Panes[i]?=some s.Panes[i]:=qE1 hi
  obtain⟨a,b,c,e,f⟩:=h i _ hp
  obtain⟨d,g⟩:=hd _ (List.getElem_mem hi)
  unfold badQ
  rw[hp]
  simp only[Bool.or_eq_false_iff,Bool.not_eq_false',decide_eq_false_iff_not,Int.not_le,bne_eq_false_iff_eq]
  exact⟨⟨⟨a,b,c⟩,d,g,e⟩,f⟩
theorem badW1_iff (s:IState):(List.range s.Wins.length).any (badW1 s)=false↔WnOk s:=by
 rw[any_range]
 constructor
 ·intro h i w hw
  have h1:=h i (qS1.1 hw).1
  unfold badW1 at h1
  rw[hw]at h1
  simp only[Bool.or_eq_false_iff,Bool.not_eq_false',decide_eq_false_iff_not,Int.not_le,Int.not_lt]at h1
  obtain⟨a,b,c,d,e,f⟩:=h1
  exact⟨e,a,b,c,d,f⟩
 ·intro h i hi
  have hw:s.Wins[i]?=some s.Wins[i]:=qE1 hi
  obtain⟨e,a,b,c,d,f⟩:=h i _ hw
  unfold badW1
  rw[hw]
  simp only[Bool.or_eq_false_iff,Bool.not_eq_false',decide_eq_false_iff_not,Int.not_le,Int.not_lt]
  exact⟨a,b,c,d,e,f⟩
theorem badW2_iff (s:IState):(List.range s.Wins.length).any (badW2 s)=false↔WnOk s∧DisOk s:=by
 have hl:∀w:IWin,(placesV w.Tree s.W s.H).2=true→leavesV w.Tree=lvs w.Tree:=fun w hp=>by unfold leavesV;rw[if_pos (placesV_true hp)]
 rw[any_range]
 constructor
 ·intro h
  have h':∀i w,s.Wins[i]?=some w→_:=fun i w hp=>by
   have h1:=h i (qS1.1 hp).1
   unfold badW2 at h1
   rw[hp]at h1
   simp only[Bool.or_eq_false_iff,Bool.not_eq_false',decide_eq_false_iff_not,Int.not_le,Int.not_lt]at h1
   exact h1
  refine⟨fun i w hw=> ?_,fun p hp w hw e=> ?_⟩
  ·obtain⟨a,b,c,d,e,f,g⟩:=h' i w hw
   rw[hl w a]at g
   exact⟨a,b,c,d,f,g⟩
  ·obtain⟨i,hi⟩:=List.getElem?_of_mem hw
   obtain⟨a,b,c,d,q,f,g⟩:=h' i w hi
   exact absurd (beq_iff_eq.2 e.symm) (List.any_eq_false.1 q p hp)
 ·rintro⟨h,hd⟩ i hi
  have hw:s.Wins[i]?=some s.Wins[i]:=qE1 hi
  obtain⟨a,b,c,d,f,g⟩:=h i _ hw
  unfold badW2
  rw[hw]
  simp only[Bool.or_eq_false_iff,Bool.not_eq_false',decide_eq_false_iff_not,Int.not_le,Int.not_lt]
  exact⟨a,b,c,d,List.any_eq_false.2 fun p hp=>by simpa using fun e=>hd p hp _ (List.getElem_mem hi) e.symm,f,by rw[hl _ a];exact g⟩
theorem badU_iff {a b:List Int} (hb:b.Nodup):((List.range a.length).any (badU a b)=false∧a.length=b.length)↔a.Perm b:=by
 rw[any_range]
 constructor
 ·rintro⟨h,hl⟩
  have h':∀i x,a[i]?=some x→x∉a.take i∧x∈b:=fun i x hx=>by
   have h1:=h i (qS1.1 hx).1
   unfold badU at h1
   rw[hx]at h1
   simp only[Bool.or_eq_false_iff,Bool.not_eq_false']at h1
   obtain⟨h2,h3⟩:=h1
   refine⟨fun hm=>absurd (beq_self_eq_true x) (List.any_eq_false.1 h2 x hm),?_⟩
   obtain⟨y,hy,e⟩:=List.any_eq_true.1 h3
   rw[←beq_iff_eq.1 e];exact hy
  refine perm_of (List.pairwise_iff_getElem.2 fun i j hi hj hij e=> ?_) hl fun x hx=> ?_
  ·refine(h' j _ (qE1 hj)).1 ?_
   rw[←e]
   exact List.mem_take_iff_getElem.2 ⟨i,by omega,rfl⟩
  ·obtain⟨i,hi⟩:=List.getElem?_of_mem hx
   exact(h' i x hi).2
 ·intro h
  have ha:a.Nodup:=h.nodup_iff.2 hb
  refine⟨fun i hi=> ?_,h.length_eq⟩
  unfold badU
  rw[qE1 hi]
  simp only[Bool.or_eq_false_iff,Bool.not_eq_false']
  refine⟨List.any_eq_false.2 fun y hy e=> ?_,List.any_eq_true.2 ⟨a[i],h.mem_iff.1 (List.getElem_mem hi),beq_self_eq_true _⟩⟩
  obtain⟨j,hj,e'⟩:=List.mem_take_iff_getElem.1 hy
  exact List.pairwise_iff_getElem.1 ha j i (by omega) hi (by omega) (e'.trans (beq_iff_eq.1 e))
theorem asc_lt {l:List Int} (h:∀(i:Nat) x,l[i]?=some x→prevB l i x=false):∀(j i:Nat) (x y:Int),i<j→l[i]?=some x→l[j]?=some y→x<y:=by
 intro j
 induction j with
 | zero=>intro i x y hij;omega
 | succ j ih=>
  intro i x y hij hx hy
  have hj:j<l.length:=by have:=(qS1.1 hy).1;omega
  have h1:=h (j+1) y hy
  unfold prevB at h1
  simp only[qE1 hj,decide_eq_false_iff_not,Int.not_le]at h1
  by_cases e:i=j
  ·subst e
   rw[qE1 hj]at hx;cases hx;exact h1
  ·have:=ih i x l[j] (by omega) hx (qE1 hj)
   omega
theorem asc_nodup {l:List Int} (h:∀(i:Nat) x,l[i]?=some x→prevB l i x=false):l.Nodup:=
 List.pairwise_iff_getElem.2 fun i j hi hj hij e=>by
  have:=asc_lt h j i _ _ hij (qE1 hi) (qE1 hj)
  omega
theorem PanOk.nodup {s:IState} (h:PanOk s):(s.Panes.map (·.Id)).Nodup:=asc_nodup fun i x hx=>by
 rw[List.getElem?_map]at hx
 obtain⟨p,hp,rfl⟩:=Option.map_eq_some_iff.1 hx
 exact(h i p hp).2.2.1
theorem WnOk.nodup {s:IState} (h:WnOk s):(s.Wins.map (·.Id)).Nodup:=asc_nodup fun i x hx=>by
 rw[List.getElem?_map]at hx
 obtain⟨p,hp,rfl⟩:=Option.map_eq_some_iff.1 hx
 exact(h i p hp).2.2.2.1
noncomputable def areaB (s:IState) (p:IPane):Bool:=p.Term.S.W !=(areaV s p.Id).1||p.Term.S.H !=(areaV s p.Id).2
theorem areaB_iff (s:IState):s.Panes.any (areaB s)=false↔AreaOk s:=by
 rw[List.any_eq_false]
 constructor
 ·intro h p hp
  have:=h p hp
  unfold areaB at this
  simpa using this
 ·intro h p hp
  have:=h p hp
  unfold areaB
  simpa using this
noncomputable def stateB (s:IState):Bool:=isSizeB s.W s.H&&((decide (0≤s.Limit)&&decide (s.Limit≤100))&&((decide (1≤s.Next)&&decide (s.Next≤1000000))&&((!(List.range s.Panes.length).any (badP s)&&decide ((s.Panes.length:Int)≤24))&&((!(List.range s.Wins.length).any (badW1 s)&&(decide ((s.Wins.length:Int)≤12)&&onceB (lvw s.Wins) (s.Panes.map (·.Id))))&&((!(List.range s.Sess.length).any (badX s)&&(decide ((s.Sess.length:Int)≤8)&&onceB (ssw s.Sess) (s.Wins.map (·.Id))))&& !s.Panes.any (areaB s))))))
theorem pI_StateOk_1_eq {F:Nat} {s:IState} {p:IPane} (h:SG F s):pI_StateOk_1 (F+70) p s=some (areaB s p,s):=by
 unfold pI_StateOk_1 areaB
 rw[pI_Area_eq h.f.f,bd_s]
 generalize areaV s p.Id=v
 obtain⟨a,b⟩:=v
 simp only
 cases(p.Term.S.W !=a)<;>rfl
theorem containsArea_eq {F:Nat} {s:IState} (h:SG F s):pG_slices_ContainsFunc_IPane_I_StateOk_1 (F+70) s.Panes s=some (s.Panes.any (areaB s),s):=by
 have hfu:=h.f.f.fu;have hpl:=h.f.f.pl
 unfold pG_slices_ContainsFunc_IPane_I_StateOk_1 pG_slices_IndexFunc_IPane_I_StateOk_1
 have hh:=loopF_fnd (fuel:=F+70) (B:=pG_slices_IndexFunc_IPane_I_StateOk_1_b1 (F+70)) (fun i=>(s,s.Panes,(s.Panes.length:Int),(i:Int))) s.Panes (areaB s) (fun i=> .inr ((i:Int),s)) (.inl s) (v:=(s,s.Panes,(s.Panes.length:Int),0)) rfl (fun i x hx=>by
  obtain⟨h1,h2,h3,h4,h5⟩:=idx_facts hx (by omega)
  unfold pG_slices_IndexFunc_IPane_I_StateOk_1_b1
  simp only[h1,br_t,gd_t h2,h3,bd_s,h5,gd_t h4,pI_StateOk_1_eq h]
  cases areaB s x<;>rfl) (by unfold pG_slices_IndexFunc_IPane_I_StateOk_1_b1;simp) (by omega)
 rw[hh,←atV_nonneg]
 unfold atV
 cases s.Panes.findIdx? (areaB s)<;>rfl
theorem pI_StateOk_eq {F:Nat} {s:IState} (h:SG F s):pI_StateOk (F+70) s=some (stateB s):=by
 unfold pI_StateOk stateB
 simp only[pI_isSize_eq,pI_within_eq,pI_isId_eq,bd_s,pI_panesOk_eq h.f,pI_winsOk_eq h,pI_sessOk_eq h]
 have hcomb:∀a b c d e f:Bool,br (!a) (some (s,true)) (br (!b) (some (s,true)) (br (!c) (some (s,true)) (br (!d) (some (s,true)) (br (!e) (some (s,true)) (some (s,!f))))))=some (s,!(a&&(b&&(c&&(d&&(e&&f)))))):=by
  intro a b c d e f;cases a<;>cases b<;>cases c<;>cases d<;>cases e<;>rfl
 rw[hcomb,bd_s]
 simp only
 rw[containsArea_eq h,bd_s]
 have hfin:∀a b c d e f g:Bool,br (!(a&&(b&&(c&&(d&&(e&&f)))))) (some false) (some (!g))=some (a&&(b&&(c&&(d&&(e&&(f&& !g)))))):=by
  intro a b c d e f g;cases a<;>cases b<;>cases c<;>cases d<;>cases e<;>cases f<;>rfl
 exact hfin _ _ _ _ _ _ _
theorem pS_GridNew_eq {fuel:Nat} (w h:Int) (hf:20000<fuel):∃g,pS_GridNew fuel w h=some (g,isSizeB w h):=by
 unfold pS_GridNew
 by_cases h1:w<1
 ·exact⟨IGrid.mk 0 0 [],by rw[qT1 h1,show isSizeB w h=false by unfold isSizeB;rw[qF1 (show¬1≤w by omega)];rfl];rfl⟩
 by_cases h2:120<w
 ·exact⟨IGrid.mk 0 0 [],by rw[qF1 h1,qT1 h2,show isSizeB w h=false by unfold isSizeB;rw[qF1 (show¬w≤120 by omega)];simp];rfl⟩
 by_cases h3:h<1
 ·exact⟨IGrid.mk 0 0 [],by rw[qF1 h1,qF1 h2,qT1 h3,show isSizeB w h=false by unfold isSizeB;rw[qF1 (show¬1≤h by omega)];simp];rfl⟩
 by_cases h4:120<h
 ·exact⟨IGrid.mk 0 0 [],by rw[qF1 h1,qF1 h2,qF1 h3,qT1 h4,show isSizeB w h=false by unfold isSizeB;rw[qF1 (show¬h≤120 by omega)];simp];rfl⟩
 have hm0:0≤w*h:=Int.mul_nonneg (by omega) (by omega)
 have hm1:w*h≤120*120:=Int.mul_le_mul (by omega) (by omega) (by omega) (by omega)
 have hk:inK IntKind.i64 (w*h):=inK64 (by omega) (by omega)
 rw[qF1 h1,qF1 h2,qF1 h3,qF1 h4]
 simp only[br_f,gd_t hk,bd_s]
 by_cases h5:4000<w*h
 ·exact⟨IGrid.mk 0 0 [],by rw[qT1 h5,show isSizeB w h=false by unfold isSizeB;rw[qF1 (show¬w*h≤4000 by omega)];simp];rfl⟩
 have hs:isSizeB w h=true:=isSizeB_true.2 ⟨by omega,by omega,by omega,by omega,by omega⟩
 rw[qF1 h5,hs,br_f]
 obtain⟨n,hn⟩:=Int.eq_ofNat_of_zero_le hm0
 have key:loopF (pS_GridNew_b1 fuel) fuel (IGrid.mk 0 0 [],IGrid.mk w h [],w,h,0)=some (IGrid.mk 0 0 [],IGrid.mk w h (List.replicate n (ICell.mk 32 (IAttr.mk 0 0 false false false)))):=by
  refine loopF_run (B:=pS_GridNew_b1 fuel) (fuel:=fuel) (fun i=>(IGrid.mk 0 0 [],IGrid.mk w h (List.replicate i (ICell.mk 32 (IAttr.mk 0 0 false false false))),w,h,(i:Int))) n _ rfl (fun i hi=> ?_) (by unfold pS_GridNew_b1;simp only[gd_t hk];rw[hn];simp) (by omega)
  have hr:roomB K.iCell (List.replicate i (ICell.mk 32 (IAttr.mk 0 0 false false false))++ [ICell.mk 32 (IAttr.mk 0 0 false false false)]).length:=roomB_of (by simp;omega) (by decide)
  unfold pS_GridNew_b1 pS_l07Blank
  simp only[gd_t hk,bd_s]
  rw[hn,qT1 (show(i:Int)<(n:Int) by omega),br_t,gd_t hr,gd_t (inK64 (v:=(i:Int)+1) (by omega) (by omega)),←List.replicate_succ']
  rfl
 rw[key]
 exact⟨_,rfl⟩
noncomputable def stateS (s:IState):Bool:=isSizeB s.W s.H&&(!decide (s.Limit<0)&&(!decide (100<s.Limit)&&(!decide (s.Next<1)&&(!decide (1000000<s.Next)&&(!decide (24<(s.Panes.length:Int))&&(!decide (12<(s.Wins.length:Int))&&(!decide (8<(s.Sess.length:Int))&&((!(List.range s.Wins.length).any (badW2 s)&&(!(List.range (lvw s.Wins).length).any (badU (lvw s.Wins) (s.Panes.map (·.Id)))&&((lvw s.Wins).length:Int)==(s.Panes.length:Int)))&&((!(List.range s.Sess.length).any (badX s)&&(!(List.range (ssw s.Sess).length).any (badU (ssw s.Sess) (s.Wins.map (·.Id)))&&((ssw s.Sess).length:Int)==(s.Wins.length:Int)))&& !(List.range s.Panes.length).any (badQ s))))))))))
theorem pS_StateOk_eq' {F:Nat} {s:IState} (h:SG F s):pS_StateOk (F+70) s=some (stateS s):=by
 have hfu:=h.f.f.fu
 obtain⟨g,hg⟩:=pS_GridNew_eq (fuel:=F+70) s.W s.H (by omega)
 unfold pS_StateOk stateS
 simp only[hg,bd_s,pS_l14Wins_eq h,pS_l14Sess_eq h,pS_panes_eq h.f]
 have hcomb:∀a b c d e f g k:Bool,br (!a) (some (s,true)) (br b (some (s,true)) (br c (some (s,true)) (br d (some (s,true)) (br e (some (s,true)) (br f (some (s,true)) (br g (some (s,true)) (some (s,k))))))))=some (s,!(a&&(!b&&(!c&&(!d&&(!e&&(!f&&(!g&& !k)))))))):=by
  intro a b c d e f g k;cases a<;>cases b<;>cases c<;>cases d<;>cases e<;>cases f<;>cases g<;>cases k<;>rfl
 rw[hcomb,bd_s]
 simp only
 rw[pS_l14Wins_eq h,bd_s,pS_l14Sess_eq h,bd_s,pS_panes_eq h.f,bd_s]
 have hfin:∀z a b c:Bool,br (!z) (some false) (bd (br a (br b (some c) (some false)) (some false)) fun x=>some x)=some (z&&(a&&(b&&c))):=by
  intro z a b c;cases z<;>cases a<;>cases b<;>cases c<;>rfl
 rw[hfin]
 simp only[Bool.and_assoc]
theorem stateB_eq (s:IState):stateS s=stateB s:=by
 rw[Bool.eq_iff_iff]
 unfold stateS stateB
 simp only[Bool.and_eq_true,Bool.not_eq_true',badP_iff,badQ_iff,badW1_iff,badW2_iff,areaB_iff,once_perm,decide_eq_true_eq,decide_eq_false_iff_not,beq_iff_eq,Int.not_lt]
 constructor
 ·rintro⟨z,l1,l2,n1,n2,c1,c2,c3,⟨⟨w,d⟩,u,ul⟩,⟨x,v,vl⟩,p,a⟩
  exact⟨z,⟨by omega,by omega⟩,⟨by omega,by omega⟩,⟨⟨p,d⟩,by omega⟩,⟨w,by omega,(badU_iff p.nodup).1 ⟨u,by simp;omega⟩⟩,⟨x,by omega,(badU_iff w.nodup).1 ⟨v,by simp;omega⟩⟩,a⟩
 ·rintro⟨z,⟨l1,l2⟩,⟨n1,n2⟩,⟨⟨p,d⟩,c1⟩,⟨w,c2,u⟩,⟨x,c3,v⟩,a⟩
  obtain⟨u1,u2⟩:=(badU_iff p.nodup).2 u
  obtain⟨v1,v2⟩:=(badU_iff w.nodup).2 v
  rw[List.length_map]at u2 v2
  exact⟨z,by omega,by omega,by omega,by omega,by omega,by omega,by omega,⟨⟨w,d⟩,u1,by omega⟩,⟨x,v1,by omega⟩,p,a⟩
theorem pS_StateOk_eq {F:Nat} {s:IState} (h:SG F s):pS_StateOk (F+70) s=some (stateB s):=by rw[pS_StateOk_eq' h,stateB_eq]
structure StB (s:IState):Prop where
 win:WnOk s
 c2:s.Wins.length≤12
 ses:∀(i:Nat) (x:ISess),s.Sess[i]?=some x→wordB x.Name=true
 p2:(ssw s.Sess).Perm (s.Wins.map (·.Id))
theorem stB_of {s:IState} (h:stateB s=true):StB s:=by
 unfold stateB at h
 simp only[Bool.and_eq_true,Bool.not_eq_true',badP_iff,badQ_iff,badW1_iff,badW2_iff,areaB_iff,once_perm,decide_eq_true_eq]at h
 obtain⟨z,⟨l1,l2⟩,⟨n1,n2⟩,⟨⟨p,d⟩,c1⟩,⟨w,c2,u⟩,⟨x,c3,v⟩,a⟩:=h
 refine⟨w,by omega,fun i y hy=> ?_,v⟩
 have h1:=any_range.1 x i (qS1.1 hy).1
 unfold badX at h1
 rw[hy]at h1
 simp only[Bool.or_eq_false_iff,Bool.not_eq_false']at h1
 exact h1.1
theorem wordB_size {b:ByteArray} (h:wordB b=true):b.size≤12:=by
 unfold wordB at h
 simp only[Bool.and_eq_true,decide_eq_true_eq]at h
 omega
def winNm (s:IState) (n:Int):ByteArray:=match s.Wins.find? (fun w=>w.Id==n)with
 | some w=>w.Name
 | none=>ByteArray.mk #[]
def stepT (s:IState) (act:Int) (v:ByteArray) (n:Int):ByteArray:=if(n==act)=true then v++ByteArray.mk #[32]++numT n++ByteArray.mk #[58]++winNm s n++ByteArray.mk #[42]else v++ByteArray.mk #[32]++numT n++ByteArray.mk #[58]++winNm s n
theorem win_find {s:IState} (h:StB s) {n:Int} (hn:n∈s.Wins.map (·.Id)):∃(i:Nat) (w:IWin),atV (fun y=>y.Id==n) s.Wins=(i:Int)∧s.Wins[i]?=some w∧winNm s n=w.Name∧w.Name.size≤12:=by
 cases hf:s.Wins.findIdx? (fun y=>y.Id==n)with
 | none=>
  obtain⟨w,hw,e⟩:=List.mem_map.1 hn
  have:=List.findIdx?_eq_none_iff.1 hf w hw
  simp[e]at this
 | some i=>
  obtain⟨w,hw,hq⟩:=findIdx_get hf
  refine⟨i,w,atV_some hf,hw,?_,wordB_size (h.win i w hw).2.2.2.2.1⟩
  unfold winNm
  obtain⟨hi,_,h3⟩:=List.findIdx?_eq_some_iff_getElem.1 hf
  rw[find_at hw hq (fun j y hj hy=>by
   have:=h3 j hj
   obtain⟨hj',e⟩:=qS1.1 hy
   rw[e]at this;simpa using this)]
theorem stepT_size {s:IState} (h:StB s) {n act:Int} (hn:n∈s.Wins.map (·.Id)) (v:ByteArray):(stepT s act v n).size≤v.size+30:=by
 obtain⟨i,w,_,_,e,hs⟩:=win_find h hn
 have:=numT_size n
 have h1:(ByteArray.mk #[32]).size=1:=rfl
 have h2:(ByteArray.mk #[58]).size=1:=rfl
 have h3:(ByteArray.mk #[42]).size=1:=rfl
 unfold stepT
 rw[e]
 split<;>simp only[ByteArray.size_append]<;>omega
theorem fold_size {s:IState} (h:StB s) {act:Int}:∀(l:List Int) (v:ByteArray),(∀n∈l,n∈s.Wins.map (·.Id))→(l.foldl (stepT s act) v).size≤v.size+30*l.length
 | [],v,_=>by simp
 | n::l,v,hl=>by
  have h1:=fold_size h (act:=act) l (stepT s act v n) fun m hm=>hl m (List.mem_cons_of_mem _ hm)
  have h2:=stepT_size h (act:=act) (hl n (List.mem_cons_self ..)) v
  rw[List.foldl_cons,List.length_cons]
  omega
theorem sess_ids {s:IState} (h:StB s) {x:ISess} (hx:x∈s.Sess):∀n∈x.Wins,n∈s.Wins.map (·.Id):=fun n hn=>by
 refine h.p2.mem_iff.1 ?_
 unfold ssw
 exact List.mem_flatMap.2 ⟨x,hx,hn⟩
theorem pI_status_loop {F:Nat} {s:IState} (h:SG F s) (hb:StB s) {x:ISess} (hx:x∈s.Sess) (v0:ByteArray) (hv:v0.size≤1000):loopF (pI_State_status_b1 (F+70)) (F+70) (s,x,v0,x.Wins,(x.Wins.length:Int),0)=some (x.Wins.foldl (stepT s x.Active) v0):=by
 have hfu:=h.f.f.fu;have hwl:=h.f.f.wl
 have hsw:=h.f.f.sw x hx
 have he:x.Wins.take x.Wins.length=x.Wins:=List.take_length
 refine loopF_run (B:=pI_State_status_b1 (F+70)) (fuel:=F+70) (fun i=>(s,x,(x.Wins.take i).foldl (stepT s x.Active) v0,x.Wins,(x.Wins.length:Int),(i:Int))) x.Wins.length _ rfl (fun i hi=> ?_) (by unfold pI_State_status_b1;simp) (by omega)
 obtain⟨h1,h2,h3,h4,h5⟩:=idx_facts (qE1 hi) (by omega)
 have hids:=sess_ids hb hx
 have hsz:=fold_size hb (act:=x.Active) (x.Wins.take i) v0 fun n hn=>hids n (List.mem_of_mem_take hn)
 rw[take_succ_get (qE1 hi),List.foldl_append,List.foldl_cons,List.foldl_nil]
 have hn:=hids _ (List.getElem_mem hi)
 rw[List.length_take]at hsz
 generalize (x.Wins.take i).foldl (stepT s x.Active) v0=v at hsz⊢
 generalize x.Wins[i]=n at h3 hn⊢
 obtain⟨k,w,e1,e2,e3,e4⟩:=win_find hb hn
 have hk:=(qS1.1 e2).1
 have hnt:=numT_size n
 have z1:(ByteArray.mk #[32]).size=1:=rfl
 have z2:(ByteArray.mk #[58]).size=1:=rfl
 have z3:(ByteArray.mk #[42]).size=1:=rfl
 have hwa:=pI_WinAt_eq (fuel:=F+70) (s:=s) (n:=n) (by omega) (by omega)
 unfold pI_State_status_b1
 simp only[h1,br_t]
 rw[gd_t h2,h3,bd_s,pI_NumText_eq,bd_s]
 rw[gd_p (by rw[z1];omega),gd_p (by simp only[ByteArray.size_append];omega),hwa,bd_s,e1,gd_p ⟨by omega,by omega⟩,show(k:Int).toNat=k by omega,e2,bd_s]
 rw[gd_p (by simp only[ByteArray.size_append];omega),gd_p (by simp only[ByteArray.size_append];omega)]
 unfold stepT
 rw[e3]
 cases(n==x.Active)with
 | true=>
  rw[br_t,gd_p (by simp only[ByteArray.size_append];omega),bd_s]
  simp only
  rw[h5,gd_t h4]
  simp only[if_true,ByteArray.append_assoc]
 | false=>
  rw[br_f,bd_s]
  simp only
  rw[h5,gd_t h4]
  simp only[Bool.false_eq_true,if_false,ByteArray.append_assoc]
theorem pS_status_loop {F:Nat} {s:IState} (h:SG F s) (hb:StB s) {x:ISess} {j:Nat} (hx:s.Sess[j]?=some x) (v0:ByteArray) (hv:v0.size≤1000):loopF (pS_Status_b1 (F+70)) (F+70) (s,(j:Int),v0,x.Wins,(x.Wins.length:Int),0)=some (x.Wins.foldl (stepT s x.Active) v0):=by
 have hfu:=h.f.f.fu;have hwl:=h.f.f.wl;have hsl:=h.f.f.sl
 have hmem:=qM1 hx
 have hj:=(qS1.1 hx).1
 have hsw:=h.f.f.sw x hmem
 have he:x.Wins.take x.Wins.length=x.Wins:=List.take_length
 refine loopF_run (B:=pS_Status_b1 (F+70)) (fuel:=F+70) (fun i=>(s,(j:Int),(x.Wins.take i).foldl (stepT s x.Active) v0,x.Wins,(x.Wins.length:Int),(i:Int))) x.Wins.length _ rfl (fun i hi=> ?_) (by unfold pS_Status_b1;simp) (by omega)
 obtain⟨h1,h2,h3,h4,h5⟩:=idx_facts (qE1 hi) (by omega)
 have hids:=sess_ids hb hmem
 have hsz:=fold_size hb (act:=x.Active) (x.Wins.take i) v0 fun n hn=>hids n (List.mem_of_mem_take hn)
 rw[take_succ_get (qE1 hi),List.foldl_append,List.foldl_cons,List.foldl_nil]
 have hn:=hids _ (List.getElem_mem hi)
 rw[List.length_take]at hsz
 generalize (x.Wins.take i).foldl (stepT s x.Active) v0=v at hsz⊢
 generalize x.Wins[i]=n at h3 hn⊢
 obtain⟨k,w,e1,e2,e3,e4⟩:=win_find hb hn
 have hk:=(qS1.1 e2).1
 have hnt:=numT_size n
 have z1:(ByteArray.mk #[32]).size=1:=rfl
 have z2:(ByteArray.mk #[58]).size=1:=rfl
 have z3:(ByteArray.mk #[42]).size=1:=rfl
 have hwa:=pS_WinAt_eq (fuel:=F+70) (s:=s) (n:=n) (by omega) (by omega)
 unfold pS_Status_b1
 simp only[h1,br_t]
 rw[gd_t h2,h3,bd_s,gd_p (by omega),pS_NumText_eq n (by omega),bd_s]
 rw[gd_p (by simp only[ByteArray.size_append];omega),gd_p (by simp only[ByteArray.size_append];omega),hwa,bd_s,e1,gd_p ⟨by omega,by omega⟩,show(k:Int).toNat=k by omega,e2,bd_s]
 rw[gd_p (by simp only[ByteArray.size_append];omega),gd_p ⟨by omega,by omega⟩,show(j:Int).toNat=j by omega,hx,bd_s]
 unfold stepT
 rw[e3]
 cases(n==x.Active)with
 | true=>
  rw[br_t,gd_p (by simp only[ByteArray.size_append];omega),bd_s]
  simp only
  rw[h5,gd_t h4]
  simp only[if_true]
 | false=>
  rw[br_f,bd_s]
  simp only
  rw[h5,gd_t h4]
  simp only[Bool.false_eq_true,if_false]
noncomputable def statusV (s:IState) (n:ByteArray):ByteArray:=if stateB s=true then(match s.Sess.find? (fun y=>decide (y.Name=n))with
  | none=>ByteArray.mk #[]
  | some x=>x.Wins.foldl (stepT s x.Active) (ByteArray.mk #[91]++n++ByteArray.mk #[93]))else ByteArray.mk #[]
theorem sess_find {s:IState} {n:ByteArray} {j:Nat} (hf:s.Sess.findIdx? (fun y=>decide (y.Name=n))=some j):∃x,s.Sess[j]?=some x∧x.Name=n∧s.Sess.find? (fun y=>decide (y.Name=n))=some x:=by
 obtain⟨x,hx,hq⟩:=findIdx_get hf
 obtain⟨hi,_,h3⟩:=List.findIdx?_eq_some_iff_getElem.1 hf
 refine⟨x,hx,by simpa using hq,find_at hx hq (fun j y hj hy=>by
  have:=h3 j hj
  obtain⟨hj',e⟩:=qS1.1 hy
  rw[e]at this;simpa using this)⟩
theorem pS_Status_eq {F:Nat} {s:IState} {n:ByteArray} (h:SG F s):pS_Status (F+70) s n=some (statusV s n):=by
 have hfu:=h.f.f.fu;have hsl:=h.f.f.sl
 unfold pS_Status statusV
 rw[pS_SessAt_eq (by omega) (by omega),bd_s,pS_StateOk_eq h,bd_s]
 cases hb:stateB s with
 | false=>rfl
 | true=>
  have hB:=stB_of hb
  simp only[Bool.not_true,br_f,bd_s,if_true]
  cases hf:s.Sess.findIdx? (fun y=>decide (y.Name=n))with
  | none=>
   rw[atV_none hf,show s.Sess.find? (fun y=>decide (y.Name=n))=none from List.find?_eq_none.2 fun y hy=>by rw[List.findIdx?_eq_none_iff.1 hf y hy];simp]
   rfl
  | some j=>
   obtain⟨x,hx,hn,hfd⟩:=sess_find hf
   have hj:=(qS1.1 hx).1
   have hw:=wordB_size (hB.ses j x hx)
   rw[hn]at hw
   have z1:(ByteArray.mk #[91]).size=1:=rfl
   have z2:(ByteArray.mk #[93]).size=1:=rfl
   rw[atV_some hf,hfd,show decide ((j:Int)<0)=false by simp,br_f,gd_p (by omega),gd_p (by simp only[ByteArray.size_append];omega),gd_p ⟨by omega,by omega⟩,show(j:Int).toNat=j by omega,hx,bd_s,pS_status_loop h hB hx _ (by simp only[ByteArray.size_append];omega),bd_s]
def mix {α:Type} (l:List α) (D:Nat→Bool) (v:Nat→α):List α:=l.mapIdx fun j d=>if D j then v j else d
section
variable {α:Type} {l:List α} {D D':Nat→Bool} {v v':Nat→α}
@[simp] theorem mix_len:(mix l D v).length=l.length:=by simp[mix]
theorem mix_get (j:Nat):(mix l D v)[j]?=l[j]?.map fun d=>if D j then v j else d:=by simp[mix,List.getElem?_mapIdx]
theorem mix_congr (h:∀j,j<l.length→D j=D' j) (hv:∀j,j<l.length→D j=true→v j=v' j):mix l D v=mix l D' v':=by
 refine List.ext_getElem? fun j=> ?_
 rw[mix_get,mix_get]
 cases hj:l[j]? with
 | none=>rfl
 | some d=>
  have hl:=(qS1.1 hj).1
  rw[Option.map_some,Option.map_some,←h j hl]
  cases hd:D j with
  | false=>rfl
  | true=>simp[hv j hl hd]
theorem mix_none (h:∀j,j<l.length→D j=false):mix l D v=l:=by
 refine List.ext_getElem? fun j=> ?_
 rw[mix_get]
 cases hj:l[j]? with
 | none=>rfl
 | some d=>rw[Option.map_some,h j (qS1.1 hj).1];rfl
theorem mix_set {p:Nat} {x:α} (hp:p<l.length) (hx:v p=x) (h:∀j,j<l.length→D' j=(D j||j==p)):(mix l D v).set p x=mix l D' v:=by
 refine List.ext_getElem? fun j=> ?_
 rw[List.getElem?_set,mix_get,mix_get]
 by_cases e:p=j
 ·subst e
  rw[if_pos rfl,if_pos (by rw[mix_len];exact hp),qE1 hp,Option.map_some,h p hp]
  simp[hx]
 ·rw[if_neg e]
  cases hj:l[j]? with
  | none=>rfl
  | some d=>
   rw[Option.map_some,Option.map_some,h j (qS1.1 hj).1]
   have:(j==p)=false:=by simp;exact fun h=>e h.symm
   rw[this,Bool.or_false]
theorem mix_comm {D1 D2:Nat→Bool} {v1 v2:Nat→α} (h:∀j,j<l.length→D1 j=true→D2 j=false):mix (mix l D1 v1) D2 v2=mix (mix l D2 v2) D1 v1:=by
 refine List.ext_getElem? fun j=> ?_
 rw[mix_get,mix_get,mix_get,mix_get]
 cases hj:l[j]? with
 | none=>rfl
 | some d=>
  simp only[Option.map_some]
  cases h1:D1 j with
  | false=>simp
  | true=>simp[h j (qS1.1 hj).1 h1]
theorem mix_all {q:α→Bool} (h:l.all q=true) (hv:∀j,j<l.length→D j=true→q (v j)=true):(mix l D v).all q=true:=by
 rw[List.all_eq_true]at h⊢
 intro x hx
 obtain⟨j,hj⟩:=List.getElem?_of_mem hx
 rw[mix_get]at hj
 cases hl:l[j]? with
 | none=>rw[hl]at hj;cases hj
 | some d=>
  rw[hl,Option.map_some]at hj
  cases hd:D j with
  | true=>rw[hd]at hj;cases hj;exact hv j (qS1.1 hl).1 hd
  | false=>rw[hd]at hj;cases hj;exact h _ (qM1 hl)
end
def inR (m:Nat) (x y w h:Int) (j:Nat):Bool:=(decide (x≤((j % m:Nat):Int))&&decide (((j % m:Nat):Int)<x+w))&&(decide (y≤((j / m:Nat):Int))&&decide (((j / m:Nat):Int)<y+h))
theorem inR_iff {m j:Nat} {x y w h:Int}:inR m x y w h j=true↔(x≤((j % m:Nat):Int)∧((j % m:Nat):Int)<x+w)∧(y≤((j / m:Nat):Int)∧((j / m:Nat):Int)<y+h):=by simp[inR]
theorem rc_at {m r c:Nat} (hc:c<m):(r*m+c) % m=c∧(r*m+c) / m=r:=by
 have hm:0<m:=by omega
 constructor
 ·rw[Nat.add_comm,Nat.add_mul_mod_self_right,Nat.mod_eq_of_lt hc]
 ·rw[Nat.add_comm,Nat.add_mul_div_right _ _ hm,Nat.div_eq_of_lt hc,Nat.zero_add]
theorem rc_eq {m j r c:Nat} (h1:j % m=c) (h2:j / m=r):j=r*m+c:=by
 have:=Nat.div_add_mod j m
 rw[h1,h2,Nat.mul_comm]at this
 exact this.symm
theorem rc_lt {m n r c:Nat} (hc:c<m) (hr:r<n):r*m+c<m*n:=by
 have:(r+1)*m≤n*m:=Nat.mul_le_mul_right _ hr
 rw[Nat.add_mul,Nat.one_mul,Nat.mul_comm n m]at this
 omega
theorem rc_div {m n j:Nat} (hm:0<m) (h:j<m*n):j % m<m∧j / m<n:=⟨Nat.mod_lt _ hm,(Nat.div_lt_iff_lt_mul hm).2 (by rw[Nat.mul_comm];exact h)⟩
def blankV:ICell:=ICell.mk 32 (IAttr.mk 0 0 false false false)
def fillV (g:IGrid) (x y w h:Int) (c:ICell):IGrid:=IGrid.mk g.W g.H (mix g.Cells (inR g.W.toNat x y w h) fun _=>c)
def cellAt (m:Nat) (h:IGrid) (x y:Int) (j:Nat):ICell:=(h.Cells[(((j / m:Nat):Int)-y).toNat*h.W.toNat+(((j % m:Nat):Int)-x).toNat]?).getD blankV
def pasteV (g h:IGrid) (x y:Int):IGrid:=IGrid.mk g.W g.H (mix g.Cells (inR g.W.toNat x y h.W h.H) (cellAt g.W.toNat h x y))
theorem grid_nat {g:IGrid} (h:gridOkB g=true):∃m n:Nat,g.W=(m:Int)∧g.H=(n:Int)∧1≤m∧m≤120∧1≤n∧n≤120∧m*n≤4000∧g.Cells.length=m*n∧g.W.toNat=m∧g.Cells.all cellOkB=true:=by
 unfold gridOkB at h
 rw[Bool.and_eq_true,Bool.and_eq_true]at h
 obtain⟨h1,h2,h3⟩:=h
 obtain⟨a,b,c,d,e⟩:=isSizeB_true.1 h1
 obtain⟨m,hm⟩:∃m:Nat,g.W=m:=⟨g.W.toNat,by omega⟩
 obtain⟨n,hn⟩:∃n:Nat,g.H=n:=⟨g.H.toNat,by omega⟩
 have h2:(g.Cells.length:Int)=g.W*g.H:=by simpa using h2
 rw[hm,hn]at e h2
 have e1:((m*n:Nat):Int)≤4000:=by rw[Int.natCast_mul];exact e
 have e2:(g.Cells.length:Int)=((m*n:Nat):Int):=by rw[Int.natCast_mul];exact h2
 exact⟨m,n,hm,hn,by omega,by omega,by omega,by omega,by omega,by omega,by omega,h3⟩
theorem gridOk_mk {g g':IGrid} (h:gridOkB g=true) (hw:g'.W=g.W) (hh:g'.H=g.H) (hl:g'.Cells.length=g.Cells.length) (hc:g'.Cells.all cellOkB=true):gridOkB g'=true:=by
 unfold gridOkB at h⊢
 rw[hw,hh,hl,hc]
 rw[Bool.and_eq_true,Bool.and_eq_true]at h
 simp[h.1,h.2.1]
theorem fillV_ok {g:IGrid} (h:gridOkB g=true) {c:ICell} (hc:cellOkB c=true) (x y w hh:Int):gridOkB (fillV g x y w hh c)=true:=by
 obtain⟨_,_,_,_,_,_,_,_,_,_,_,ha⟩:=grid_nat h
 exact gridOk_mk h rfl rfl (by simp[fillV]) (mix_all ha fun _ _ _=>hc)
theorem blank_ok:cellOkB blankV=true:=by decide
theorem pasteV_ok {g h:IGrid} (hg:gridOkB g=true) (hh:gridOkB h=true) (x y:Int):gridOkB (pasteV g h x y)=true:=by
 obtain⟨_,_,_,_,_,_,_,_,_,_,_,ha⟩:=grid_nat hg
 obtain⟨_,_,_,_,_,_,_,_,_,_,_,hb⟩:=grid_nat hh
 refine gridOk_mk hg rfl rfl (by simp[pasteV]) (mix_all ha fun j _ _=> ?_)
 unfold cellAt
 cases hj:h.Cells[(((j / g.W.toNat:Nat):Int)-y).toNat*h.W.toNat+(((j % g.W.toNat:Nat):Int)-x).toNat]? with
 | none=>exact blank_ok
 | some d=>exact List.all_eq_true.1 hb d (qM1 hj)
structure Pch where
 q:Qd
 v:Nat→Nat→ICell
def lay (g:IGrid) (p:Pch):IGrid:=IGrid.mk g.W g.H (mix g.Cells (inR g.W.toNat p.q.1 p.q.2.1 p.q.2.2.1 p.q.2.2.2) (p.v g.W.toNat))
def lineQ (x:INode) (q:Qd):Qd:=if x.Down=true then(q.1,(f1 x q).2.1+(f1 x q).2.2.2,q.2.2.1,1)else((f1 x q).1+(f1 x q).2.2.1,q.2.1,1,q.2.2.2)
def lineC (x:INode):ICell:=ICell.mk (if x.Down=true then 45 else 124) (IAttr.mk 0 0 false false false)
def lineP (x:INode) (q:Qd):Pch:=⟨lineQ x q,fun _ _=>lineC x⟩
section
variable (lk:Int→IGrid)
def leafP (p:Int) (q:Qd):Pch:=⟨(q.1,q.2.1,(lk p).W,(lk p).H),fun m j=>cellAt m (lk p) q.1 q.2.1 j⟩
def Tre.pat:Tre→Qd→List Pch
 | .leaf x,q=> [leafP lk x.Pane q]
 | .node x a b,q=>lineP x q::(a.pat (f1 x q)++b.pat (f2 x q))
def Tre.lnp:Tre→Qd→List Pch
 | .leaf _,_=> []
 | .node x a b,q=>lineP x q::(a.lnp (f1 x q)++b.lnp (f2 x q))
def Tre.lfp:Tre→Qd→List Pch
 | .leaf x,q=> [leafP lk x.Pane q]
 | .node x a b,q=>a.lfp (f1 x q)++b.lfp (f2 x q)
theorem pat_perm:∀(T:Tre) (q:Qd),(T.pat lk q).Perm (T.lnp q++T.lfp lk q)
 | .leaf x,q=>List.Perm.refl _
 | .node x a b,q=>by
  have ha:=pat_perm a (f1 x q)
  have hb:=pat_perm b (f2 x q)
  show(lineP x q::(a.pat lk (f1 x q)++b.pat lk (f2 x q))).Perm (lineP x q::(a.lnp (f1 x q)++b.lnp (f2 x q))++(a.lfp lk (f1 x q)++b.lfp lk (f2 x q)))
  rw[List.cons_append]
  refine List.Perm.cons _ ((ha.append hb).trans ?_)
  rw[List.append_assoc,List.append_assoc]
  exact List.Perm.append_left _ (List.perm_append_comm_assoc _ _ _)
end
def qin (a b:Qd):Prop:=b.1≤a.1∧b.2.1≤a.2.1∧a.1+a.2.2.1≤b.1+b.2.2.1∧a.2.1+a.2.2.2≤b.2.1+b.2.2.2
def qdis (a b:Qd):Prop:=a.1+a.2.2.1≤b.1∨b.1+b.2.2.1≤a.1∨a.2.1+a.2.2.2≤b.2.1∨b.2.1+b.2.2.2≤a.2.1
theorem qin_trans {a b c:Qd} (h1:qin a b) (h2:qin b c):qin a c:=by unfold qin at *;omega
theorem qdis_in {a b a' b':Qd} (h:qdis a b) (h1:qin a' a) (h2:qin b' b):qdis a' b':=by unfold qdis qin at *;omega
theorem qdis_symm {a b:Qd} (h:qdis a b):qdis b a:=by unfold qdis at *;omega
theorem parts_in {x:INode} {q:Qd} (h:qOk q) (hr:room x q=true) (hf:1≤x.First):qin (f1 x q) q∧qin (f2 x q) q∧qin (lineQ x q) q∧qdis (f1 x q) (f2 x q)∧qdis (lineQ x q) (f1 x q)∧qdis (lineQ x q) (f2 x q):=by
 obtain⟨X,Y,W,H⟩:=q
 unfold qOk at h
 unfold room at hr
 simp only[decide_eq_true_eq]at hr h
 unfold qin qdis lineQ f1 f2 mn
 cases hd:x.Down with
 | true=>
  rw[hd]at hr
  simp only[if_true]at hr⊢
  split<;>omega
 | false=>
  rw[hd]at hr
  simp only[if_false,Bool.false_eq_true]at hr⊢
  split<;>omega
def Tre.fitL (lk:Int→IGrid):Tre→Qd→Prop
 | .leaf x,q=>(lk x.Pane).W=q.2.2.1∧(lk x.Pane).H=q.2.2.2
 | .node x a b,q=>a.fitL lk (f1 x q)∧b.fitL lk (f2 x q)
theorem pat_in {lk:Int→IGrid}:∀(T:Tre) (q:Qd),T.ok→T.fits q=true→qOk q→T.fitL lk q→(∀p∈T.pat lk q,qin p.q q)∧(T.pat lk q).Pairwise fun a b=>qdis a.q b.q
 | .leaf x,q,_,_,hq,hl=>by
  have hl:(lk x.Pane).W=q.2.2.1∧(lk x.Pane).H=q.2.2.2:=hl
  refine⟨fun p hp=> ?_,List.pairwise_singleton _ _⟩
  have:p=leafP lk x.Pane q:=by simpa [Tre.pat]using hp
  subst this
  show qin (q.1,q.2.1,(lk x.Pane).W,(lk x.Pane).H) q
  unfold qin
  simp only
  omega
 | .node x a b,q,ho,hf,hq,hl=>by
  have hf:(room x q&&(a.fits (f1 x q)&&b.fits (f2 x q)))=true:=hf
  rw[Bool.and_eq_true,Bool.and_eq_true]at hf
  obtain⟨hr,hfa,hfb⟩:=hf
  have hx:=splitOk_first ho.1
  obtain⟨q1,q2⟩:=qOk_part hq hr hx.1
  obtain⟨i1,i2,i3,d1,d2,d3⟩:=parts_in hq hr hx.1
  obtain⟨a1,a2⟩:=pat_in a (f1 x q) ho.2.1 hfa q1 hl.1
  obtain⟨b1,b2⟩:=pat_in b (f2 x q) ho.2.2 hfb q2 hl.2
  refine⟨fun p hp=> ?_,?_⟩
  ·have hp:p∈lineP x q::(a.pat lk (f1 x q)++b.pat lk (f2 x q)):=hp
   rcases List.mem_cons.1 hp with rfl|hp
   ·exact i3
   ·rcases List.mem_append.1 hp with hp|hp
    ·exact qin_trans (a1 p hp) i1
    ·exact qin_trans (b1 p hp) i2
  ·show(lineP x q::(a.pat lk (f1 x q)++b.pat lk (f2 x q))).Pairwise _
   have rf:∀c:Qd,qin c c:=fun c=>by unfold qin;omega
   refine List.pairwise_cons.2 ⟨fun p hp=> ?_,List.pairwise_append.2 ⟨a2,b2,fun p hp p' hp'=>qdis_in d1 (a1 p hp) (b1 p' hp')⟩⟩
   rcases List.mem_append.1 hp with hp|hp
   ·exact qdis_in d2 (rf _) (a1 p hp)
   ·exact qdis_in d3 (rf _) (b1 p hp)
theorem lay_comm {g:IGrid} {a b:Pch} (h:qdis a.q b.q):lay (lay g a) b=lay (lay g b) a:=by
 unfold lay
 simp only
 rw[mix_comm fun j hj h1=> ?_]
 rw[inR_iff]at h1
 cases h2:inR g.W.toNat b.q.1 b.q.2.1 b.q.2.2.1 b.q.2.2.2 j with
 | false=>rfl
 | true=>
  rw[inR_iff]at h2
  unfold qdis at h
  omega
theorem lay_perm {l l':List Pch} (hp:l.Perm l') (hd:l.Pairwise fun a b=>qdis a.q b.q) (g:IGrid):l.foldl lay g=l'.foldl lay g:=by
 induction hp generalizing g with
 | nil=>rfl
 | cons x _ ih=>exact ih (List.pairwise_cons.1 hd).2 _
 | swap x y l=>
  show l.foldl lay (lay (lay g y) x)=l.foldl lay (lay (lay g x) y)
  rw[lay_comm]
  exact(List.pairwise_cons.1 hd).1 x (List.mem_cons_self ..)
 | trans h1 h2 ih1 ih2=>
  rw[ih1 hd g]
  exact ih2 ((h1.pairwise_iff fun h=>qdis_symm h).1 hd) g
theorem lay_tree {lk:Int→IGrid} {T:Tre} {q:Qd} (ho:T.ok) (hf:T.fits q=true) (hq:qOk q) (hl:T.fitL lk q) (g:IGrid):(T.pat lk q).foldl lay g=(T.lfp lk q).foldl lay ((T.lnp q).foldl lay g):=by
 rw[lay_perm (pat_perm lk T q) (pat_in T q ho hf hq hl).2,List.foldl_append]
theorem lay_fill (g:IGrid) (x:INode) (q:Qd):lay g (lineP x q)=fillV g (lineQ x q).1 (lineQ x q).2.1 (lineQ x q).2.2.1 (lineQ x q).2.2.2 (lineC x):=rfl
theorem lay_paste (g:IGrid) (lk:Int→IGrid) (p:Int) (q:Qd):lay g (leafP lk p q)=pasteV g (lk p) q.1 q.2.1:=rfl
theorem lineC_ok (x:INode):cellOkB (lineC x)=true:=by unfold lineC;cases x.Down<;>decide
def pOk (p:Pch):Prop:=∀g,gridOkB g=true→gridOkB (lay g p)=true
theorem lays_ok:∀{l:List Pch} {g:IGrid},(∀p∈l,pOk p)→gridOkB g=true→gridOkB (l.foldl lay g)=true
 | [],g,_,h=>h
 | p::l,g,hl,h=>lays_ok (l:=l) (fun p' hp=>hl p' (List.mem_cons_of_mem _ hp)) (hl p (List.mem_cons_self ..) g h)
theorem line_pOk (x:INode) (q:Qd):pOk (lineP x q):=fun g hg=>by rw[lay_fill];exact fillV_ok hg (lineC_ok x) _ _ _ _
theorem leaf_pOk {lk:Int→IGrid} {p:Int} (h:gridOkB (lk p)=true) (q:Qd):pOk (leafP lk p q):=fun g hg=>by rw[lay_paste];exact pasteV_ok hg h _ _
theorem lnp_pOk:∀(T:Tre) (q:Qd),∀p∈T.lnp q,pOk p
 | .leaf x,q,p,hp=>by simp[Tre.lnp]at hp
 | .node x a b,q,p,hp=>by
  have hp:p∈lineP x q::(a.lnp (f1 x q)++b.lnp (f2 x q)):=hp
  rcases List.mem_cons.1 hp with rfl|hp
  ·exact line_pOk x q
  ·rcases List.mem_append.1 hp with hp|hp
   ·exact lnp_pOk a _ p hp
   ·exact lnp_pOk b _ p hp
theorem pat_pOk {lk:Int→IGrid}:∀(T:Tre) (q:Qd),(∀x∈T.flat,x.Pane≠0→gridOkB (lk x.Pane)=true)→T.ok→∀p∈T.pat lk q,pOk p
 | .leaf x,q,h,ho,p,hp=>by
  have:p=leafP lk x.Pane q:=by simpa [Tre.pat]using hp
  subst this
  exact leaf_pOk (h x (by simp[Tre.flat]) ho.1) q
 | .node x a b,q,h,ho,p,hp=>by
  have hp:p∈lineP x q::(a.pat lk (f1 x q)++b.pat lk (f2 x q)):=hp
  rcases List.mem_cons.1 hp with rfl|hp
  ·exact line_pOk x q
  ·rcases List.mem_append.1 hp with hp|hp
   ·exact pat_pOk a _ (fun y hy=>h y (by simp[Tre.flat,hy])) ho.2.1 p hp
   ·exact pat_pOk b _ (fun y hy=>h y (by simp[Tre.flat,hy])) ho.2.2 p hp
theorem pat_len (lk:Int→IGrid):∀(T:Tre) (q:Qd),(T.pat lk q).length=T.flat.length
 | .leaf x,q=>rfl
 | .node x a b,q=>by simp[Tre.pat,Tre.flat,pat_len lk a,pat_len lk b]
theorem all_head (T:Tre) (q:Qd):∃p l,T.all q=mkR p q::l:=by cases T<;>exact⟨_,_,rfl⟩
theorem pat_at {lk:Int→IGrid}:∀(T:Tre) (q:Qd) (i:Nat) (x:INode),T.flat[i]?=some x→T.ok→∃r p,(T.all q)[i]?=some r∧(T.pat lk q)[i]?=some p∧r.Pane=x.Pane∧
  ((x.Pane≠0∧p=leafP lk x.Pane (rq r))∨(x.Pane=0∧∃f,(T.all q)[i+1]?=some f∧rq f=f1 x (rq r)∧p=lineP x (rq r)))
 | .leaf y,q,i,x,hx,ho=>by
  cases i with
  | succ i=>simp[Tre.flat]at hx
  | zero=>
   have:y=x:=by simpa [Tre.flat]using hx
   subst this
   exact⟨_,_,rfl,rfl,rfl,.inl ⟨ho.1,rfl⟩⟩
 | .node y a b,q,i,x,hx,ho=>by
  have hx:(y::(a.flat++b.flat))[i]?=some x:=hx
  show∃r p,(mkR y.Pane q::(a.all (f1 y q)++b.all (f2 y q)))[i]?=some r∧(lineP y q::(a.pat lk (f1 y q)++b.pat lk (f2 y q)))[i]?=some p∧r.Pane=x.Pane∧(_∨(x.Pane=0∧∃f,(mkR y.Pane q::(a.all (f1 y q)++b.all (f2 y q)))[i+1]?=some f∧_∧_))
  cases i with
  | zero=>
   have:y=x:=by simpa using hx
   subst this
   obtain⟨p0,l0,e0⟩:=all_head a (f1 y q)
   refine⟨mkR y.Pane q,lineP y q,rfl,rfl,rfl,.inr ⟨splitOk_eq ho.1,mkR p0 (f1 y q),?_,rfl,rfl⟩⟩
   rw[List.getElem?_cons_succ,e0];rfl
  | succ i=>
   rw[List.getElem?_cons_succ]at hx
   simp only[List.getElem?_cons_succ]
   by_cases hi:i<a.flat.length
   ·rw[List.getElem?_append_left hi]at hx
    obtain⟨r,p,h1,h2,h3,h4⟩:=pat_at a (f1 y q) i x hx ho.2.1
    refine⟨r,p,by rw[List.getElem?_append_left (by rw[all_len];exact hi)];exact h1,by rw[List.getElem?_append_left (by rw[pat_len];exact hi)];exact h2,h3,?_⟩
    rcases h4 with h4|⟨h4,f,h5,h6⟩
    ·exact .inl h4
    ·exact .inr ⟨h4,f,by rw[List.getElem?_append_left (qS1.1 h5).1];exact h5,h6⟩
   ·rw[List.getElem?_append_right (by omega)]at hx
    obtain⟨r,p,h1,h2,h3,h4⟩:=pat_at b (f2 y q) (i-a.flat.length) x hx ho.2.2
    refine⟨r,p,by rw[List.getElem?_append_right (by rw[all_len];omega),all_len];exact h1,by rw[List.getElem?_append_right (by rw[pat_len];omega),pat_len];exact h2,h3,?_⟩
    rcases h4 with h4|⟨h4,f,h5,h6⟩
    ·exact .inl h4
    ·exact .inr ⟨h4,f,by rw[List.getElem?_append_right (by rw[all_len];omega),all_len,show i+1-a.flat.length=i-a.flat.length+1 by omega];exact h5,h6⟩
theorem loopF_int {V O:Type} {B:V→Option (V⊕O)} (f:Int→V) (a b:Int) (R:O) {fuel:Nat} (h:∀i,a≤i→i<b→B (f i)=some (.inl (f (i+1)))) (he:B (f (if a<b then b else a))=some (.inr R)) (hf:(b-a).toNat<fuel):loopF B fuel (f a)=some R:=by
 refine loopF_run (B:=B) (fun k=>f (a+k)) (b-a).toNat R (by simp) (fun k hk=> ?_) ?_ hf
 ·rw[h (a+k) (by omega) (by omega),show a+(k:Int)+1=a+((k+1:Nat):Int) by omega]
 ·rw[show a+((b-a).toNat:Int)=if a<b then b else a by split<;>omega];exact he
theorem row_facts {m n r:Nat} (hr:r<n) (h:m*n≤4000):(r:Int)*(m:Int)=((r*m:Nat):Int)∧((r:Int)+1)*(m:Int)=((r*m+m:Nat):Int)∧r*m+m≤m*n:=by
 refine⟨by rw[Int.natCast_mul],by rw[Int.natCast_add,Int.natCast_mul,Int.add_mul,Int.one_mul],?_⟩
 have:(r+1)*m≤n*m:=Nat.mul_le_mul_right _ hr
 rw[Nat.add_mul,Nat.one_mul,Nat.mul_comm n m]at this
 exact this
theorem tdm (k m:Nat):(k:Int).tmod (m:Int)=((k % m:Nat):Int)∧(k:Int).tdiv (m:Int)=((k / m:Nat):Int):=by
 rw[Int.tmod_eq_emod_of_nonneg (by omega),Int.tdiv_eq_ediv_of_nonneg (by omega)]
 exact⟨by simp,by simp⟩
def inD (m:Nat) (x y w h r i:Int) (j:Nat):Bool:=inR m x y w h j&&(decide (((j / m:Nat):Int)<r)||(decide (((j / m:Nat):Int)=r)&&decide (((j % m:Nat):Int)<i)))
theorem inD_iff {m j:Nat} {x y w h r i:Int}:inD m x y w h r i j=true↔inR m x y w h j=true∧(((j / m:Nat):Int)<r∨((j / m:Nat):Int)=r∧((j % m:Nat):Int)<i):=by simp[inD]
theorem bool_iff {a b:Bool} (h:a=true↔b=true):a=b:=Bool.eq_iff_iff.2 h
theorem inD_step {m n:Nat} {x y w h:Int} {r c:Nat} (hc:c<m) (hin:(x≤(c:Int)∧(c:Int)<x+w)∧(y≤(r:Int)∧(r:Int)<y+h)) {j:Nat}:inD m x y w h (r:Int) ((c:Int)+1) j=(inD m x y w h (r:Int) (c:Int) j||j==r*m+c):=by
 refine bool_iff ?_
 rw[Bool.or_eq_true,inD_iff,inD_iff,beq_iff_eq]
 constructor
 ·rintro⟨h1,h2⟩
  by_cases e:((j / m:Nat):Int)=r∧((j % m:Nat):Int)=c
  ·exact .inr (rc_eq (by omega) (by omega))
  ·exact .inl ⟨h1,by omega⟩
 ·rintro(⟨h1,h2⟩ | e)
  ·exact⟨h1,by omega⟩
  ·obtain⟨e1,e2⟩:=rc_at (r:=r) hc
   rw[←e]at e1 e2
   exact⟨inR_iff.2 (by rw[e1,e2];exact hin),by rw[e1,e2];omega⟩
theorem inD_skip {m n:Nat} {x y w h:Int} {r c:Int} (hm:0<m) (hin:¬((0≤c∧c<m)∧(0≤r∧r<n)∧(x≤c∧c<x+w)∧(y≤r∧r<y+h))) {j:Nat} (hj:j<m*n):inD m x y w h r (c+1) j=inD m x y w h r c j:=by
 refine bool_iff ?_
 rw[inD_iff,inD_iff]
 obtain⟨b1,b2⟩:=rc_div hm hj
 constructor
 ·rintro⟨h1,h2⟩
  refine⟨h1,?_⟩
  have:=inR_iff.1 h1
  generalize j / m=A at *
  generalize j % m=B at *
  omega
 ·rintro⟨h1,h2⟩
  exact⟨h1,by omega⟩
theorem inD_row {m:Nat} {x y w h r a b:Int} (hm:0<m) (ha:a≤x∨a≤0) (hb:x+w≤b∨(m:Int)≤b) {j:Nat}:inD m x y w h r b j=inD m x y w h (r+1) a j:=by
 refine bool_iff ?_
 rw[inD_iff,inD_iff]
 have:=Nat.mod_lt j hm
 constructor
 ·rintro⟨h1,h2⟩
  exact⟨h1,by omega⟩
 ·rintro⟨h1,h2⟩
  have:=inR_iff.1 h1
  exact⟨h1,by omega⟩
theorem inD_none {m:Nat} {x y w h r a:Int} (hr:r≤y∨r≤0) (ha:a≤x∨a≤0) {j:Nat}:inD m x y w h r a j=false:=by
 cases hd:inD m x y w h r a j with
 | false=>rfl
 | true=>
  obtain⟨h1,h2⟩:=inD_iff.1 hd
  have:=inR_iff.1 h1
  generalize j / m=A at *
  generalize j % m=B at *
  omega
theorem inD_all {m n:Nat} {x y w h r a:Int} (hm:0<m) (hr:y+h≤r∨(n:Int)≤r) {j:Nat} (hj:j<m*n):inD m x y w h r a j=inR m x y w h j:=by
 refine bool_iff ?_
 rw[inD_iff]
 obtain⟨b1,b2⟩:=rc_div hm hj
 constructor
 ·exact fun h=>h.1
 ·intro h1
  have:=inR_iff.1 h1
  exact⟨h1,by omega⟩
theorem clone_cell {fuel:Nat} {l:List ICell} (h:l.length≤1000000):pG_slices_Clone_ICell fuel l=some l:=by
 unfold pG_slices_Clone_ICell
 refine cmpN_eq (by rw[List.nil_append,gd_t (roomB_of (by omega) (by decide))]) fun e=>by rw[e]
theorem copyGrid_eq {fuel:Nat} {g:IGrid} (h:g.Cells.length≤1000000):pI_copyGrid fuel g=some g:=by
 unfold pI_copyGrid
 rw[clone_cell h]
 rfl
theorem l07Copy_eq {fuel:Nat} {g:IGrid} (h:g.Cells.length≤1000000):pS_l07Copy fuel g=some g:=by
 unfold pS_l07Copy
 rw[gd_t (roomB_of (by simp;omega) (by decide))]
 rfl
theorem grid_len {g:IGrid} (h:gridOkB g=true):g.Cells.length≤4000:=by
 obtain⟨m,n,_,_,_,_,_,_,h5,h6,_⟩:=grid_nat h
 omega
def plc (x:Int):Prop:= -100000≤x∧x≤100000
theorem isPlace_t {fuel:Nat} {x:Int} (h:plc x):pI_isPlace fuel x=some true:=by
 unfold pI_isPlace
 rw[pI_within_eq,qT1 h.1,qT1 h.2]
 rfl
theorem small_t {fuel:Nat} {x:Int} (h:plc x):pS_l07Small fuel x=some true:=by
 unfold pS_l07Small
 rw[qT1 h.1,qT1 h.2]
 rfl
section
variable {F:Nat} {g:IGrid} {x y w h:Int} {c:ICell}
theorem fill_row (hF:5000<F) (hg:gridOkB g=true) (hx:plc x) (hw:plc w) {r:Nat} (hr:(r:Int)<g.H) (hy:y≤r∧(r:Int)<y+h) (z:IGrid) :
  loopF (pI_GridFill_b2 F) F (g,c,z,IGrid.mk g.W g.H (mix g.Cells (inD g.W.toNat x y w h r (if 0<x then x else 0)) fun _=>c),x,y,w,h,(r:Int),if 0<x then x else 0) =
   some (g,c,z,IGrid.mk g.W g.H (mix g.Cells (inD g.W.toNat x y w h ((r:Int)+1) (if 0<x then x else 0)) fun _=>c),x,y,w,h,(r:Int)):=by
 obtain⟨m,n,e1,e2,m1,m2,n1,n2,mn,el,em,_⟩:=grid_nat hg
 obtain⟨x1,x2⟩:=hx
 obtain⟨w1,w2⟩:=hw
 have hrn:r<n:=by omega
 obtain⟨f1,f2,f3⟩:=row_facts hrn mn
 have k0:inK IntKind.i64 (x+w):=inK64 (by omega) (by omega)
 refine loopF_int (B:=pI_GridFill_b2 F) (fun i=>(g,c,z,IGrid.mk g.W g.H (mix g.Cells (inD g.W.toNat x y w h r i) fun _=>c),x,y,w,h,(r:Int),i)) (if 0<x then x else 0) (if x+w<g.W then x+w else g.W) _ (fun i hi1 hi2=> ?_) ?_ ?_
 ·obtain⟨k,rfl⟩:∃k:Nat,i=k:=⟨i.toNat,by split at hi1<;>omega⟩
  have hk1:x≤k:=by split at hi1<;>omega
  have hk2:(k:Int)<x+w∧(k:Int)<g.W:=by split at hi2<;>omega
  have hkm:k<m:=by omega
  unfold pI_GridFill_b2
  simp only[gd_t k0]
  rw[qT1 (show(k:Int)<if x+w<g.W then x+w else g.W from hi2),br_t]
  simp only[em]
  rw[e1,f1,f2]
  simp only[Int.toNat_natCast,mix_len]
  rw[gd_t (inK64 (by omega) (by omega)),gd_t (inK64 (by omega) (by omega)),gd_t (inK64 (by omega) (by omega)),gd_t (by omega),gd_t (by omega),gd_t (by omega)]
  have hp:0+r*m+k<g.Cells.length:=by omega
  rw[qE1 (by rw[mix_len];exact hp),bd_s,gd_t (inK64 (by omega) (by omega))]
  rw[mix_set (D':=inD m x y w h r ((k:Int)+1)) hp rfl fun j hj=>by
   rw[Nat.zero_add];exact inD_step (n:=n) hkm ⟨⟨hk1,hk2.1⟩,hy⟩]
 ·unfold pI_GridFill_b2
  simp only[gd_t k0]
  rw[qF1 (by split<;>omega),br_f]
  rw[mix_congr (D':=inD g.W.toNat x y w h ((r:Int)+1) (if 0<x then x else 0)) (v':=fun _=>c) (fun j _=>inD_row (by omega) (by split<;>omega) (by split<;>(try split)<;>omega)) fun _ _ _=>rfl]
 ·split<;>split<;>omega
theorem pI_GridFill_eq (hF:5000<F) (hg:gridOkB g=true) (hc:cellOkB c=true) (hx:plc x) (hy:plc y) (hw:plc w) (hh:plc h):pI_GridFill F g x y w h c=some (fillV g x y w h c):=by
 obtain⟨m,n,e1,e2,m1,m2,n1,n2,mn,el,em,_⟩:=grid_nat hg
 unfold pI_GridFill
 rw[pI_GridOk_eq (by omega) (by omega),hg,pI_CellOk_eq,hc,isPlace_t hx,isPlace_t hy,isPlace_t hw,isPlace_t hh]
 simp only[bd_s,Bool.not_true,br_f]
 rw[copyGrid_eq (by omega)]
 simp only[bd_s]
 obtain⟨y1,y2⟩:=hy
 obtain⟨h1,h2⟩:=hh
 have k0:inK IntKind.i64 (y+h):=inK64 (by omega) (by omega)
 have e0:g=IGrid.mk g.W g.H (mix g.Cells (inD g.W.toNat x y w h (if 0<y then y else 0) (if 0<x then x else 0)) fun _=>c):=by
  rw[mix_none fun j _=>inD_none (by split<;>omega) (by split<;>omega)]
 have key:=loopF_int (B:=pI_GridFill_b1 F) (fun r=>(g,c,IGrid.mk 0 0 [],IGrid.mk g.W g.H (mix g.Cells (inD g.W.toNat x y w h r (if 0<x then x else 0)) fun _=>c),x,y,w,h,r)) (if 0<y then y else 0) (if y+h<g.H then y+h else g.H) (IGrid.mk 0 0 [],fillV g x y w h c) (fuel:=F) (fun i hi1 hi2=>by
  obtain⟨r,rfl⟩:∃r:Nat,i=r:=⟨i.toNat,by split at hi1<;>omega⟩
  have hr1:y≤r:=by split at hi1<;>omega
  have hr2:(r:Int)<y+h∧(r:Int)<g.H:=by split at hi2<;>omega
  unfold pI_GridFill_b1
  simp only[gd_t k0]
  rw[qT1 (show(r:Int)<if y+h<g.H then y+h else g.H from hi2),br_t,fill_row hF hg hx hw hr2.2 ⟨hr1,hr2.1⟩]
  simp only[bd_s]
  rw[gd_t (inK64 (by omega) (by omega))]) (by
  unfold pI_GridFill_b1
  simp only[gd_t k0]
  rw[qF1 (by split<;>omega),br_f]
  unfold fillV
  rw[mix_congr (D':=inR g.W.toNat x y w h) (v':=fun _=>c) (fun j hj=>inD_all (n:=n) (by omega) (by split<;>(try split)<;>omega) (by rw[em,←el];exact hj)) fun _ _ _=>rfl]) (by split<;>split<;>omega)
 rw[←e0]at key
 rw[key]
 rfl
theorem pS_GridFill_eq (hF:5000<F) (hg:gridOkB g=true) (hc:cellOkB c=true) (hx:plc x) (hy:plc y) (hw:plc w) (hh:plc h):pS_GridFill F g x y w h c=some (fillV g x y w h c):=by
 obtain⟨m,n,e1,e2,m1,m2,n1,n2,mn,el,em,_⟩:=grid_nat hg
 unfold pS_GridFill
 rw[pS_GridOk_eq (by omega) (by omega),hg,pS_CellOk_eq,hc,small_t hx,small_t hy,small_t hw,small_t hh]
 simp only[bd_s,Bool.not_true,br_f]
 rw[l07Copy_eq (by omega)]
 simp only[bd_s]
 obtain⟨x1,x2⟩:=hx
 obtain⟨w1,w2⟩:=hw
 obtain⟨y1,y2⟩:=hy
 obtain⟨h1,h2⟩:=hh
 have e0:g=IGrid.mk g.W g.H (mix g.Cells (fun j=>inR m x y w h j&&decide (j<0)) fun _=>c):=by
  rw[mix_none fun j _=>by simp]
 have key:=loopF_run (B:=pS_GridFill_b1 F) (fuel:=F) (fun k=>(g,c,IGrid.mk 0 0 [],IGrid.mk g.W g.H (mix g.Cells (fun j=>inR m x y w h j&&decide (j<k)) fun _=>c),x,y,w,h,(g.Cells.length:Int),(k:Int))) g.Cells.length (IGrid.mk 0 0 [],fillV g x y w h c) (v:=(g,c,IGrid.mk 0 0 [],g,x,y,w,h,(g.Cells.length:Int),0)) (by rw[←e0];rfl) (fun k hk=>by
  obtain⟨t1,t2⟩:=tdm k m
  obtain⟨b1,b2⟩:=rc_div (m:=m) (n:=n) (by omega) (by omega:k<m*n)
  have b3:(0:Int)≤((k / m:Nat):Int):=Int.natCast_nonneg _
  unfold pS_GridFill_b1
  dsimp only
  rw[qT1 (show(k:Int)<(g.Cells.length:Int) by omega),br_t]
  simp only[e1,t1,t2]
  rw[gd_t (by omega),gd_t (by omega),gd_t (inK64 (by omega) (by omega)),gd_t (inK64 (by omega) (by omega)),gd_t (inK64 (by omega) (by omega))]
  have step:∀(b:Bool),b=inR m x y w h k→bd (br b (gd ((0:Int)≤(k:Int)∧(k:Int)<((mix g.Cells (fun j=>inR m x y w h j&&decide (j<k)) fun _=>c).length:Int)) (bd ((mix g.Cells (fun j=>inR m x y w h j&&decide (j<k)) fun _=>c)[0+(k:Int).toNat]?) fun _=>some (g,c,IGrid.mk 0 0 [],IGrid.mk (m:Int) g.H ((mix g.Cells (fun j=>inR m x y w h j&&decide (j<k)) fun _=>c).set (0+(k:Int).toNat) c),x,y,w,h,(g.Cells.length:Int),(k:Int)))) (some (g,c,IGrid.mk 0 0 [],IGrid.mk (m:Int) g.H (mix g.Cells (fun j=>inR m x y w h j&&decide (j<k)) fun _=>c),x,y,w,h,(g.Cells.length:Int),(k:Int))))
    (fun(x48,x49,x50,x51,x52,x53,x54,x55,x56,x57)=>gd (inK IntKind.i64 (x57+1)) (some (Sum.inl (α:=IGrid×ICell×IGrid×IGrid×Int×Int×Int×Int×Int×Int) (β:=IGrid×IGrid) (x48,x49,x50,x51,x52,x53,x54,x55,x56,x57+1))))=some (.inl (g,c,IGrid.mk 0 0 [],IGrid.mk (m:Int) g.H (mix g.Cells (fun j=>inR m x y w h j&&decide (j<k+1)) fun _=>c),x,y,w,h,(g.Cells.length:Int),((k+1:Nat):Int))):=by
   intro b hb
   cases b with
   | true=>
    rw[br_t,gd_t (by rw[mix_len];omega),Int.toNat_natCast,qE1 (by rw[mix_len];omega),bd_s,bd_s]
    simp only
    rw[gd_t (inK64 (by omega) (by omega)),mix_set (D':=fun j=>inR m x y w h j&&decide (j<k+1)) (by omega) rfl fun j hj=> ?_]
    ·rfl
    ·refine bool_iff ?_
     simp only[Bool.or_eq_true,Bool.and_eq_true,decide_eq_true_eq,beq_iff_eq]
     constructor
     ·rintro⟨q1,q2⟩
      by_cases e:j=k
      ·right;omega
      ·left;exact⟨q1,by omega⟩
     ·rintro(⟨q1,q2⟩ | q)
      ·exact⟨q1,by omega⟩
      ·have:j=k:=by omega
       subst this
       exact⟨hb.symm,by omega⟩
   | false=>
    rw[br_f,bd_s]
    simp only
    rw[gd_t (inK64 (by omega) (by omega)),mix_congr (D':=fun j=>inR m x y w h j&&decide (j<k+1)) (v':=fun _=>c) (fun j hj=> ?_) fun _ _ _=>rfl]
    ·rfl
    ·refine bool_iff ?_
     simp only[Bool.and_eq_true,decide_eq_true_eq]
     constructor
     ·rintro⟨q1,q2⟩;exact⟨q1,by omega⟩
     ·rintro⟨q1,q2⟩
      by_cases e:j=k
      ·subst e;rw[←hb]at q1;cases q1
      ·exact⟨q1,by omega⟩
  unfold inR at step
  by_cases q1:x≤((k % m:Nat):Int)
  ·by_cases q2:((k % m:Nat):Int)<x+w
   ·by_cases q3:y≤((k / m:Nat):Int)
    ·rw[qT1 q1,qT1 q2,qT1 q3]
     simp only[br_t,bd_s]
     have:=step (decide (((k / m:Nat):Int)<y+h)) (by rw[qT1 q1,qT1 q2,qT1 q3];simp)
     exact this
    ·rw[qT1 q1,qT1 q2,qF1 q3]
     simp only[br_t,br_f,bd_s]
     exact step false (by rw[qF1 q3];simp)
   ·rw[qT1 q1,qF1 q2]
    simp only[br_t,br_f,bd_s]
    exact step false (by rw[qF1 q2];simp)
  ·rw[qF1 q1]
   simp only[br_t,br_f,bd_s]
   exact step false (by rw[qF1 q1];simp)) (by
  unfold pS_GridFill_b1
  dsimp only
  rw[qF1 (by omega),br_f]
  unfold fillV
  rw[em,mix_congr (D':=inR m x y w h) (v':=fun _=>c) (fun j hj=>by rw[qT1 hj,Bool.and_true]) fun _ _ _=>rfl]) (by omega)
 rw[key]
 rfl
end
section
variable {F:Nat} {g h:IGrid} {x y:Int}
theorem grid_size {g:IGrid} (h:gridOkB g=true):isSizeB g.W g.H=true:=by unfold gridOkB at h;rw[Bool.and_eq_true]at h;exact h.1
theorem paste_set {m n hm hn r k:Nat} {z:IGrid} (e1:g.W=(m:Int)) (em:g.W.toNat=m) (el:g.Cells.length=m*n) (c1:h.W=(hm:Int)) (c2:h.H=(hn:Int)) (cl:h.Cells.length=hm*hn) (hk:k<hm) (hr:r<hn) {R c:Nat} (hR:y+(r:Int)=R) (hc:x+(k:Int)=c) (hcm:c<m) (hRn:R<n) {d:ICell} (hd:h.Cells[r*hm+k]?=some d) :
  R*m+c<g.Cells.length∧(mix g.Cells (inD m x y h.W h.H (y+r) (x+k)) (cellAt m h x y)).set (R*m+c) d=mix g.Cells (inD m x y h.W h.H (y+r) (x+((k+1:Nat):Int))) (cellAt m h x y):=by
 have hp:R*m+c<g.Cells.length:=by rw[el];exact rc_lt hcm hRn
 refine⟨hp,mix_set hp ?_ fun j _=> ?_⟩
 ·obtain⟨q1,q2⟩:=rc_at (r:=R) hcm
  unfold cellAt
  rw[q1,q2,show((R:Int)-y).toNat=r by omega,show((c:Int)-x).toNat=k by omega,c1,Int.toNat_natCast,hd]
  rfl
 ·rw[hR,hc,show x+((k+1:Nat):Int)=(c:Int)+1 by omega]
  exact inD_step (n:=n) hcm (by omega)
theorem paste_skip {m n r k:Nat} (el:g.Cells.length=m*n) (m1:1≤m) (hn0:¬((0≤x+(k:Int)∧x+(k:Int)<m)∧(0≤y+(r:Int)∧y+(r:Int)<n))) :
  mix g.Cells (inD m x y h.W h.H (y+r) (x+k)) (cellAt m h x y)=mix g.Cells (inD m x y h.W h.H (y+r) (x+((k+1:Nat):Int))) (cellAt m h x y):=by
 refine mix_congr (fun j hj=> ?_) fun _ _ _=>rfl
 rw[show x+((k+1:Nat):Int)=x+(k:Int)+1 by omega]
 exact(inD_skip (n:=n) (by omega) (fun q=>hn0 ⟨q.1,q.2.1⟩) (by rw[←el];exact hj)).symm
theorem paste_row (hF:5000<F) (hg:gridOkB g=true) (hh:gridOkB h=true) (hx:plc x) (hy:plc y) {r:Nat} (hr:(r:Int)<h.H) (z:IGrid) (t:Int) :
  loopF (pI_Grid_paste_b2 F) F (h,z,IGrid.mk g.W g.H (mix g.Cells (inD g.W.toNat x y h.W h.H (y+r) x) (cellAt g.W.toNat h x y)),x,y,(r:Int),t,(r:Int),h.W,0) =
   some (h,z,IGrid.mk g.W g.H (mix g.Cells (inD g.W.toNat x y h.W h.H (y+((r+1:Nat):Int)) x) (cellAt g.W.toNat h x y)),x,y,t,(r:Int)):=by
 obtain⟨m,n,e1,e2,m1,m2,n1,n2,mn,el,em,_⟩:=grid_nat hg
 obtain⟨hm,hn,c1,c2,hm1,hm2,hn1,hn2,hmn,cl,cm,_⟩:=grid_nat hh
 obtain⟨x1,x2⟩:=hx
 obtain⟨y1,y2⟩:=hy
 have hrn:r<hn:=by omega
 obtain⟨f1,f2,f3⟩:=row_facts hrn hmn
 refine loopF_run (B:=pI_Grid_paste_b2 F) (fuel:=F) (fun i=>(h,z,IGrid.mk g.W g.H (mix g.Cells (inD g.W.toNat x y h.W h.H (y+r) (x+(i:Int))) (cellAt g.W.toNat h x y)),x,y,(r:Int),t,(r:Int),h.W,(i:Int))) hm _ (by rw[show x+((0:Nat):Int)=x by omega];rfl) (fun k hk=> ?_) ?_ (by omega)
 ·have hhas:∀cs,pI_Grid_has F (IGrid.mk g.W g.H cs) (x+(k:Int)) (y+(r:Int))=_:=fun cs=>pI_Grid_has_eq (g:=IGrid.mk g.W g.H cs) (show isSizeB g.W g.H=true from grid_size hg)
  unfold pI_Grid_paste_b2
  dsimp only
  rw[qT1 (show(k:Int)<h.W by omega),br_t,gd_t (inK64 (v:=x+(k:Int)) (by omega) (by omega)),gd_t (inK64 (v:=y+(r:Int)) (by omega) (by omega)),hhas,bd_s]
  dsimp only
  rw[em]
  by_cases hin:(0≤x+(k:Int)∧x+(k:Int)<m)∧(0≤y+(r:Int)∧y+(r:Int)<n)
  ·obtain⟨c,hc⟩:∃c:Nat,x+(k:Int)=c:=⟨(x+(k:Int)).toNat,by omega⟩
   obtain⟨R,hR⟩:∃R:Nat,y+(r:Int)=R:=⟨(y+(r:Int)).toNat,by omega⟩
   have hcm:c<m:=by omega
   have hRn:R<n:=by omega
   have hlt:r*hm+k<h.Cells.length:=by rw[cl];omega
   obtain⟨hp,hset⟩:=paste_set (z:=z) e1 em el c1 c2 cl hk hrn hR hc hcm hRn (qE1 hlt)
   obtain⟨s1,s2,s3⟩:=row_facts hRn mn
   rw[show(decide (0≤x+(k:Int))&&decide (x+(k:Int)≤g.W-1)&&(decide (0≤y+(r:Int))&&decide (y+(r:Int)≤g.H-1)))=true by
    rw[qT1 hin.1.1,qT1 hin.2.1,qT1 (show x+(k:Int)≤g.W-1 by omega),qT1 (show y+(r:Int)≤g.H-1 by omega)];rfl,br_t]
   rw[←hset,hR,hc,e1,c1,s1,s2,f1,f2]
   simp only[Int.toNat_natCast,mix_len]
   have hdl:(List.drop (r*hm) (List.take (r*hm+hm) h.Cells)).length=hm:=by rw[List.length_drop,List.length_take];omega
   rw[gd_t (inK64 (by omega) (by omega)),gd_t (inK64 (by omega) (by omega)),gd_t (inK64 (by omega) (by omega)),gd_t (inK64 (by omega) (by omega)),gd_t (by omega),gd_t (by omega),gd_t (inK64 (by omega) (by omega)),gd_t (inK64 (by omega) (by omega)),gd_t (inK64 (by omega) (by omega)),gd_t (inK64 (by omega) (by omega)),gd_t (by omega),gd_t (by omega),gd_t (by rw[hdl];omega)]
   rw[List.getElem?_drop,List.getElem?_take_of_lt (by omega),qE1 hlt,bd_s,gd_t (by omega),qE1 (by rw[mix_len];omega),bd_s,bd_s]
   dsimp only
   rw[gd_t (inK64 (by omega) (by omega)),Nat.zero_add]
   rfl
  ·rw[show(decide (0≤x+(k:Int))&&decide (x+(k:Int)≤g.W-1)&&(decide (0≤y+(r:Int))&&decide (y+(r:Int)≤g.H-1)))=false by
    simp only[Bool.and_eq_false_iff,decide_eq_false_iff_not];omega,br_f,bd_s]
   dsimp only
   rw[gd_t (inK64 (by omega) (by omega)),paste_skip (n:=n) el m1 hin]
   rfl
 ·unfold pI_Grid_paste_b2
  dsimp only
  rw[qF1 (by omega),br_f]
  rw[mix_congr (D':=inD g.W.toNat x y h.W h.H (y+((r+1:Nat):Int)) x) (v':=cellAt g.W.toNat h x y) (fun j _=>by
   rw[show y+((r+1:Nat):Int)=y+(r:Int)+1 by omega]
   exact inD_row (by omega) (.inl (by omega)) (.inl (by omega))) fun _ _ _=>rfl]
theorem pI_paste_eq (hF:5000<F) (hg:gridOkB g=true) (hh:gridOkB h=true) (hx:plc x) (hy:plc y):pI_Grid_paste F g h x y=some (pasteV g h x y):=by
 obtain⟨m,n,e1,e2,m1,m2,n1,n2,mn,el,em,_⟩:=grid_nat hg
 obtain⟨hm,hn,c1,c2,hm1,hm2,hn1,hn2,hmn,cl,cm,_⟩:=grid_nat hh
 unfold pI_Grid_paste
 rw[copyGrid_eq (by omega),bd_s]
 have e0:g=IGrid.mk g.W g.H (mix g.Cells (inD g.W.toNat x y h.W h.H (y+((0:Nat):Int)) x) (cellAt g.W.toNat h x y)):=by
  rw[mix_none fun j _=>inD_none (by omega) (by omega)]
 have key:=loopF_run (B:=pI_Grid_paste_b1 F) (fuel:=F) (fun r=>(h,IGrid.mk 0 0 [],IGrid.mk g.W g.H (mix g.Cells (inD g.W.toNat x y h.W h.H (y+(r:Int)) x) (cellAt g.W.toNat h x y)),x,y,h.H,(r:Int))) hn (IGrid.mk 0 0 [],pasteV g h x y) (v:=(h,IGrid.mk 0 0 [],g,x,y,h.H,0)) (by rw[←e0];rfl) (fun r hr=>by
  unfold pI_Grid_paste_b1
  dsimp only
  rw[qT1 (show(r:Int)<h.H by omega),br_t,paste_row hF hg hh hx hy (by omega),bd_s]
  dsimp only
  rw[gd_t (inK64 (by omega) (by omega))]
  rfl) (by
  unfold pI_Grid_paste_b1
  dsimp only
  rw[qF1 (by omega),br_f]
  unfold pasteV
  rw[mix_congr (D':=inR g.W.toNat x y h.W h.H) (v':=cellAt g.W.toNat h x y) (fun j hj=>inD_all (n:=n) (by omega) (by omega) (by rw[em,←el];exact hj)) fun _ _ _=>rfl]) (by omega)
 rw[key]
 rfl
theorem pS_GridPaste_eq (hF:5000<F) (hg:gridOkB g=true) (hh:gridOkB h=true) (hx:plc x) (hy:plc y):pS_GridPaste F g h x y=some (pasteV g h x y):=by
 obtain⟨m,n,e1,e2,m1,m2,n1,n2,mn,el,em,_⟩:=grid_nat hg
 obtain⟨hm,hn,c1,c2,hm1,hm2,hn1,hn2,hmn,cl,cm,_⟩:=grid_nat hh
 unfold pS_GridPaste
 rw[pS_GridOk_eq (by omega) (by omega),hg,pS_GridOk_eq (by omega) (by omega),hh,small_t hx,small_t hy]
 simp only[bd_s,Bool.not_true,br_f]
 rw[l07Copy_eq (by omega),bd_s]
 obtain⟨x1,x2⟩:=hx
 obtain⟨y1,y2⟩:=hy
 have e0:g=IGrid.mk g.W g.H (mix g.Cells (inD m x y h.W h.H (y+((0 / hm:Nat):Int)) (x+((0 % hm:Nat):Int))) (cellAt m h x y)):=by
  rw[Nat.zero_div,Nat.zero_mod,mix_none fun j _=>inD_none (by omega) (by omega)]
 have key:=loopF_run (B:=pS_GridPaste_b1 F) (fuel:=F) (fun k=>(g,h,IGrid.mk 0 0 [],IGrid.mk g.W g.H (mix g.Cells (inD m x y h.W h.H (y+((k / hm:Nat):Int)) (x+((k % hm:Nat):Int))) (cellAt m h x y)),x,y,h.Cells,(h.Cells.length:Int),(k:Int))) h.Cells.length (IGrid.mk 0 0 [],pasteV g h x y) (v:=(g,h,IGrid.mk 0 0 [],g,x,y,h.Cells,(h.Cells.length:Int),0)) (by rw[←e0];rfl) (fun q hq=>by
  obtain⟨t1,t2⟩:=tdm q hm
  obtain⟨b1,b2⟩:=rc_div (m:=hm) (n:=hn) (by omega) (by omega:q<hm*hn)
  have eq0:=rc_eq (m:=hm) (j:=q) rfl rfl
  obtain⟨a1,a2,a3,a4,a5⟩:=idx_facts (qE1 hq) (by omega)
  have nx:mix g.Cells (inD m x y h.W h.H (y+((q / hm:Nat):Int)) (x+((q % hm+1:Nat):Int))) (cellAt m h x y)=mix g.Cells (inD m x y h.W h.H (y+(((q+1) / hm:Nat):Int)) (x+(((q+1) % hm:Nat):Int))) (cellAt m h x y):=by
   generalize hr:q / hm=r at *
   generalize hi:q % hm=i at *
   by_cases hi1:i+1<hm
   ·obtain⟨w1,w2⟩:=rc_at (r:=r) hi1
    rw[show q+1=r*hm+(i+1) by omega,w1,w2]
   ·obtain⟨w1,w2⟩:=rc_at (m:=hm) (r:=r+1) (c:=0) (by omega)
    rw[show q+1=(r+1)*hm+0 by rw[Nat.add_mul];omega,w1,w2]
    refine mix_congr (fun j _=> ?_) fun _ _ _=>rfl
    rw[show y+((r+1:Nat):Int)=y+(r:Int)+1 by omega]
    exact inD_row (by omega) (.inl (by omega)) (.inl (by omega))
  unfold pS_GridPaste_b1
  dsimp only
  rw[a1,br_t,gd_t a2,a3,bd_s,c1,t1,t2,gd_t (by omega),gd_t (inK64 (by omega) (by omega)),gd_t (by omega)]
  generalize hr:q / hm=r at *
  generalize hi:q % hm=k at *
  rw[gd_t (inK64 (by omega) (by omega)),gd_t (inK64 (by omega) (by omega))]
  have hd:h.Cells[r*hm+k]?=some h.Cells[q]:=by rw[←eq0];exact qE1 hq
  rw[←c1]
  have yes:((0≤x+(k:Int)∧x+(k:Int)<m)∧(0≤y+(r:Int)∧y+(r:Int)<n))→bd (some (g,h,IGrid.mk 0 0 [],IGrid.mk g.W g.H (mix g.Cells (inD m x y h.W h.H (y+(r:Int)) (x+(k:Int))) (cellAt m h x y)),h.Cells[q],x,y,x+(k:Int),y+(r:Int),h.Cells,(h.Cells.length:Int),(q:Int),true)) (fun(x29,x30,x31,x32,x33,x34,x35,x36,x37,x38,x39,x40,x41)=>
   br x41 (
    gd (inK IntKind.i64 (x37*x29.W)) <|
    gd (inK IntKind.i64 (x37*x29.W+x36)) <|
    gd (0≤x37*x29.W+x36∧x37*x29.W+x36<(↑x32.Cells.length:Int)) <|
    bd (x32.Cells[0+(x37*x29.W+x36).toNat]?) fun x42=>
    some (x29,x30,x31,IGrid.mk x32.W x32.H (x32.Cells.set (0+(x37*x29.W+x36).toNat) x33),x34,x35,x38,x39,x40)) <|
   some (x29,x30,x31,x32,x34,x35,x38,x39,x40))=some (g,h,IGrid.mk 0 0 [],IGrid.mk g.W g.H (mix g.Cells (inD m x y h.W h.H (y+(r:Int)) (x+((k+1:Nat):Int))) (cellAt m h x y)),x,y,h.Cells,(h.Cells.length:Int),(q:Int)):=fun hin=>by
   obtain⟨c,hc⟩:∃c:Nat,x+(k:Int)=c:=⟨(x+(k:Int)).toNat,by omega⟩
   obtain⟨R,hR⟩:∃R:Nat,y+(r:Int)=R:=⟨(y+(r:Int)).toNat,by omega⟩
   have hcm:c<m:=by omega
   have hRn:R<n:=by omega
   obtain⟨hp,hset⟩:=paste_set (z:=g) e1 em el c1 c2 cl b1 b2 hR hc hcm hRn hd
   obtain⟨s1,s2,s3⟩:=row_facts hRn mn
   rw[←hset,hR,hc,bd_s]
   dsimp only
   rw[br_t,e1,s1,show((R*m:Nat):Int)+(c:Int)=((R*m+c:Nat):Int) by omega,Int.toNat_natCast,mix_len,gd_t (inK64 (by omega) (by omega)),gd_t (inK64 (by omega) (by omega)),gd_t (by omega),qE1 (by rw[mix_len];omega),bd_s,Nat.zero_add]
  have no:¬((0≤x+(k:Int)∧x+(k:Int)<m)∧(0≤y+(r:Int)∧y+(r:Int)<n))→mix g.Cells (inD m x y h.W h.H (y+(r:Int)) (x+(k:Int))) (cellAt m h x y)=mix g.Cells (inD m x y h.W h.H (y+(r:Int)) (x+((k+1:Nat):Int))) (cellAt m h x y):=fun hin=>paste_skip (n:=n) el m1 hin
  rw[←nx]
  by_cases q1:0≤x+(k:Int)
  ·by_cases q2:x+(k:Int)<g.W
   ·by_cases q3:0≤y+(r:Int)
    ·by_cases q4:y+(r:Int)<g.H
     ·rw[qT1 q1,qT1 q2,qT1 q3,qT1 q4]
      simp only[br_t]
      rw[yes ⟨⟨q1,by omega⟩,q3,by omega⟩,bd_s]
      dsimp only
      rw[gd_t (inK64 (by omega) (by omega))]
      rfl
     ·rw[qT1 q1,qT1 q2,qT1 q3,qF1 q4]
      simp only[br_t,br_f,bd_s]
      rw[gd_t (inK64 (by omega) (by omega)),no (by omega)]
      rfl
    ·rw[qT1 q1,qT1 q2,qF1 q3]
     simp only[br_t,br_f,bd_s]
     rw[gd_t (inK64 (by omega) (by omega)),no (by omega)]
     rfl
   ·rw[qT1 q1,qF1 q2]
    simp only[br_t,br_f,bd_s]
    rw[gd_t (inK64 (by omega) (by omega)),no (by omega)]
    rfl
  ·rw[qF1 q1]
   simp only[br_f,bd_s]
   rw[gd_t (inK64 (by omega) (by omega)),no (by omega)]
   rfl) (by
  unfold pS_GridPaste_b1
  dsimp only
  rw[qF1 (by omega),br_f]
  unfold pasteV
  obtain⟨w1,w2⟩:=rc_at (m:=hm) (r:=hn) (c:=0) (by omega)
  rw[em,cl,show hm*hn=hn*hm+0 by rw[Nat.mul_comm];rfl,w1,w2,mix_congr (D':=inR m x y h.W h.H) (v':=cellAt m h x y) (fun j hj=>inD_all (n:=n) (by omega) (by omega) (by rw[←el];exact hj)) fun _ _ _=>rfl]) (by omega)
 rw[key]
 rfl
end
theorem u64w {v:Int} (h0:0≤v) (h1:v<18446744073709551616):IntKind.u64.wrap v=v:=(wrap_iff .u64 v).2 ⟨by simp[loK];omega,by simp[hiK];omega⟩
theorem mask32 {v:Int} (h0:0≤v) (h1:v<4294967296):((BitVec.ofInt IntKind.u64.bits v &&&BitVec.ofInt IntKind.u64.bits 4294967295).toNat:Int)=v:=by
 obtain⟨k,rfl⟩:=Int.eq_ofNat_of_zero_le h0
 have e1:BitVec.ofInt IntKind.u64.bits (k:Int)=BitVec.ofNat IntKind.u64.bits k:=BitVec.ofInt_natCast _ _
 have e2:BitVec.ofInt IntKind.u64.bits 4294967295=BitVec.ofNat IntKind.u64.bits (2 ^ 32-1):=by decide
 rw[e1,e2,BitVec.toNat_and,BitVec.toNat_ofNat,BitVec.toNat_ofNat]
 have hb:IntKind.u64.bits=64:=rfl
 rw[hb,Nat.mod_eq_of_lt (show k<2 ^ 64 by omega),Nat.mod_eq_of_lt (show 2 ^ 32-1<2 ^ 64 by decide),Nat.and_two_pow_sub_one_eq_mod,Nat.mod_eq_of_lt (by omega)]
theorem sh32 {v:Int} (h0:0≤v) (h1:v<4294967296):v.fdiv (2 ^ min (Int.toNat 32) IntKind.u64.bits)=0:=by
 rw[show(2:Int) ^ min (Int.toNat 32) IntKind.u64.bits=4294967296 by decide,Int.fdiv_eq_ediv_of_nonneg _ (by omega),Int.ediv_eq_zero_of_lt h0 h1]
theorem mul_one64 (fuel:Nat) {n:Int} (h0:0≤n) (h1:n<4294967296):pG_bits_Mul fuel 1 n=some (0,n):=by
 unfold pG_bits_Mul pG_bits_Mul64
 have a:((BitVec.ofInt IntKind.u64.bits 1 &&&BitVec.ofInt IntKind.u64.bits 4294967295).toNat:Int)=1:=mask32 (by decide) (by decide)
 have b:((BitVec.ofInt IntKind.u64.bits 0 &&&BitVec.ofInt IntKind.u64.bits 4294967295).toNat:Int)=0:=mask32 (by decide) (by decide)
 have c:(1:Int).fdiv (2 ^ min (Int.toNat 32) IntKind.u64.bits)=0:=sh32 (by decide) (by decide)
 have d:(0:Int).fdiv (2 ^ min (Int.toNat 32) IntKind.u64.bits)=0:=sh32 (by decide) (by decide)
 have w0:IntKind.u64.wrap 0=0:=u64w (by decide) (by decide)
 have w1:IntKind.u64.wrap 1=1:=u64w (by decide) (by decide)
 have wn:IntKind.u64.wrap n=n:=u64w h0 (by omega)
 rw[gd_t (by decide),gd_t (by decide),gd_t (by decide),gd_t (by decide),gd_t (by decide)]
 simp only[mask32 h0 h1,sh32 h0 h1,a,b,c,d,Int.zero_mul,Int.mul_zero,Int.one_mul,w0,w1,wn,Int.zero_add,Int.add_zero,bd_s]
theorem repeat_eq {F:Nat} (hF:5000<F) {x:ICell} {n:Nat} (h1:1≤n) (h2:n≤4000):pG_slices_Repeat_ICell F [x] (n:Int)=some (List.replicate n x):=by
 unfold pG_slices_Repeat_ICell
 rw[qF1 (by omega),br_f,show((List.length [x]:Nat):Int)=1 by rfl,u64w (v:=1) (by decide) (by decide),u64w (v:=(n:Int)) (by omega) (by omega),mul_one64 F (by omega) (by omega),bd_s]
 dsimp only
 rw[qF1 (show¬(0:Int)<0 by decide),br_f,bd_s]
 dsimp only
 rw[qF1 (by omega),br_f,gd_t (inK64 (by omega) (by omega)),gd_t (by omega),Int.toNat_natCast,gd_t (roomB_of (by omega) (by decide))]
 have ht:List.take n [x]=[x]:=List.take_of_length_le (by simp;omega)
 obtain⟨o,e1,e2⟩:=loopF_inv (B:=pG_slices_Repeat_ICell_b1 F) (fun v=>v.1.length=n∧∃f:Nat,1≤f∧f≤n∧v.2=(f:Int)∧v.1.take f=List.replicate f x) (fun v=>n-v.2.toNat) (fun o=>o=List.replicate n x) (fun v hv=>by
  obtain⟨l,k⟩:=v
  obtain⟨hl,f,f1,f2,rfl,hf⟩:=hv
  dsimp only at hl hf
  unfold pG_slices_Repeat_ICell_b1
  dsimp only
  by_cases hfn:f<n
  ·left
   have hv:viewL false l (0+0) ((f:Int).toNat-0)=List.replicate f x:=by
    rw[←hf];simp[viewL]
   rw[qT1 (by omega),br_t,gd_t (by omega),gd_t (by omega),hv,Int.toNat_natCast,List.take_replicate,List.length_replicate,hl,gd_t (inK64 (by omega) (by omega))]
   refine⟨_,rfl,⟨?_,f+min (n-f) f,by omega,by omega,by dsimp only;omega,?_⟩,by dsimp only;omega⟩
   ·dsimp only;rw[putL_len (by simp;omega),hl]
   ·dsimp only
    unfold putL
    rw[Nat.zero_add,hf,List.replicate_append_replicate]
    rw[List.take_append_of_le_length (by simp),List.take_of_length_le (by simp)]
  ·right
   have:f=n:=by omega
   subst this
   rw[qF1 (by omega),br_f]
   refine⟨_,rfl,?_⟩
   rw[←hf,List.take_of_length_le (by omega)]) F (putL (List.replicate n (zK K.iCell)) 0 (List.take n [x]),((List.take n [x]).length:Int)) ⟨by dsimp only;rw[ht,putL_len (by simp;omega),List.length_replicate],1,Nat.le_refl _,h1,by rw[ht];rfl,by rw[ht];rfl⟩ (by dsimp only;rw[ht];omega)
 rw[e1,bd_s,e2]
theorem gridOf_eq {F:Nat} (hF:5000<F) {m n:Nat} (h1:1≤m) (h2:1≤n) (h3:m*n≤4000):pI_gridOf F (m:Int) (n:Int)=some (IGrid.mk m n (List.replicate (m*n) blankV)):=by
 have h0:1≤m*n:=Nat.mul_pos h1 h2
 unfold pI_gridOf pI_blank
 rw[bd_s,←Int.natCast_mul,gd_t (inK64 (by omega) (by omega)),repeat_eq hF h0 h3]
 rfl
def fillR (m:Nat) (l:List ICell):List ICell:=l.take m++List.replicate (m-l.length) blankV
theorem fillR_len (m:Nat) (l:List ICell):(fillR m l).length=m:=by simp[fillR];omega
def lookAll (s:IScr):List (List ICell):=(s.Back.map fun r=>fillR s.W.toNat r.Cells)++(List.range s.H.toNat).map fun y=>(s.Main.Cells.take ((y+1)*s.W.toNat)).drop (y*s.W.toNat)
def lookFrom (s:IScr) (back:Int):Nat:=s.Back.length-min back.toNat s.Back.length
def shownV (s:IScr):IGrid:=if s.OnAlt=true then s.Alt else s.Main
def lookV (s:IScr) (back:Int):IGrid:=if s.OnAlt=true∨back≤0 then shownV s else IGrid.mk s.W s.H (((lookAll s).drop (lookFrom s back)).take s.H.toNat).flatten
section
variable {α:Type}
theorem ufl_len {m:Nat}:∀{L:List (List α)},(∀x∈L,x.length=m)→L.flatten.length=L.length*m
 | [],_=>by simp
 | x::L,h=>by
  rw[List.flatten_cons,List.length_append,ufl_len fun y hy=>h y (List.mem_cons_of_mem _ hy),h x (List.mem_cons_self ..),List.length_cons,Nat.add_mul];omega
theorem ufl_drop {m:Nat}:∀{L:List (List α)} (k:Nat),(∀x∈L,x.length=m)→L.flatten.drop (k*m)=(L.drop k).flatten
 | L,0,_=>by simp
 | [],k+1,_=>by simp
 | x::L,k+1,h=>by
  rw[List.flatten_cons,List.drop_succ_cons,←ufl_drop k fun y hy=>h y (List.mem_cons_of_mem _ hy),Nat.add_mul,Nat.one_mul,Nat.add_comm,←List.drop_drop,←h x (List.mem_cons_self ..),List.drop_left]
theorem ufl_take {m:Nat}:∀{L:List (List α)} (k:Nat),(∀x∈L,x.length=m)→L.flatten.take (k*m)=(L.take k).flatten
 | L,0,_=>by simp
 | [],k+1,_=>by simp
 | x::L,k+1,h=>by
  rw[List.flatten_cons,List.take_succ_cons,List.flatten_cons,←ufl_take k fun y hy=>h y (List.mem_cons_of_mem _ hy),Nat.add_mul,Nat.one_mul,Nat.add_comm,List.take_append,h x (List.mem_cons_self ..),List.take_of_length_le (by rw[h x (List.mem_cons_self ..)];omega),Nat.add_sub_cancel_left]
theorem rows_flat {l:List α} {m:Nat}:∀k:Nat,((List.range k).map fun y=>(l.take ((y+1)*m)).drop (y*m)).flatten=l.take (k*m)
 | 0=>by simp
 | k+1=>by
  rw[List.range_succ,List.map_append,List.flatten_append,rows_flat k]
  simp only[List.map_cons,List.map_nil,List.flatten_cons,List.flatten_nil,List.append_nil]
  have h1:k*m≤(k+1)*m:=Nat.mul_le_mul_right _ (Nat.le_succ _)
  conv=>rhs;rw[←List.take_append_drop (k*m) (l.take ((k+1)*m)),List.take_take,Nat.min_eq_left h1]
end
theorem scr_facts {s:IScr} (h:scrOkB s=true):∃m n:Nat,s.W=(m:Int)∧s.H=(n:Int)∧1≤m∧m≤120∧1≤n∧n≤120∧m*n≤4000∧s.W.toNat=m∧s.H.toNat=n∧s.Main.W=s.W∧s.Main.H=s.H∧gridOkB s.Main=true∧s.Alt.W=s.W∧s.Alt.H=s.H∧gridOkB s.Alt=true∧s.Main.Cells.length=m*n∧s.Back.length≤100∧(s.Back.all rowOkB)=true:=by
 unfold scrOkB at h
 rw[Bool.and_eq_true]at h
 obtain⟨h1,h2⟩:=h
 obtain⟨_,a1,a2,a3,a4,a5,a6⟩:=gridsB_size h1
 obtain⟨m,n,b1,b2,b3,b4,b5,b6,b7,b8,b9,_⟩:=grid_nat a5
 unfold scrRestB at h2
 simp only[Bool.and_eq_true,decide_eq_true_eq]at h2
 obtain⟨_,_,_,_,_,_,_,_,_,_,⟨c1,c2⟩,c3,c4⟩:=h2
 exact⟨m,n,by omega,by omega,b3,b4,b5,b6,b7,by omega,by omega,a1,a2,a5,a3,a4,a6,b8,by omega,c4⟩
theorem look_rows {s:IScr} {m n:Nat} (e:s.W.toNat=m) (e2:s.H.toNat=n) (hl:s.Main.Cells.length=m*n):(∀x∈lookAll s,x.length=m)∧(lookAll s).length=s.Back.length+n:=by
 unfold lookAll
 rw[e,e2]
 refine⟨fun x hx=> ?_,by simp⟩
 rcases List.mem_append.1 hx with hx|hx
 ·obtain⟨r,_,rfl⟩:=List.mem_map.1 hx
  exact fillR_len _ _
 ·obtain⟨y,hy,rfl⟩:=List.mem_map.1 hx
  have hy:=List.mem_range.1 hy
  have:(y+1)*m≤n*m:=Nat.mul_le_mul_right _ hy
  rw[Nat.mul_comm n m]at this
  rw[List.length_drop,List.length_take,hl,Nat.min_eq_left this,Nat.add_mul];omega
theorem look_flat {s:IScr} {m n:Nat} (e:s.W.toNat=m) (e2:s.H.toNat=n) (hl:s.Main.Cells.length=m*n):(lookAll s).flatten=(s.Back.flatMap fun r=>fillR m r.Cells)++s.Main.Cells:=by
 unfold lookAll
 rw[e,e2,List.flatten_append,rows_flat,List.take_of_length_le (by rw[hl,Nat.mul_comm];exact Nat.le_refl _),List.flatMap_def]
theorem fillR_succ (i:Nat) (l:List ICell):fillR (i+1) l=fillR i l++ [(l[i]?).getD blankV]:=by
 unfold fillR
 by_cases h:i<l.length
 ·rw[show i+1-l.length=0 by omega,show i-l.length=0 by omega,qE1 h,List.take_succ_eq_append_getElem h]
  simp
 ·rw[List.take_of_length_le (by omega),List.take_of_length_le (by omega),List.getElem?_eq_none (by omega),show i+1-l.length=i-l.length+1 by omega,List.replicate_succ',List.append_assoc]
  rfl
theorem fillR_full {m:Nat} {l:List ICell} (h:l.length=m):fillR m l=l:=by
 unfold fillR
 rw[List.take_of_length_le (by omega),show m-l.length=0 by omega];simp
theorem l19Fill_eq {F:Nat} (hF:5000<F) {l:List ICell} (hl:l.length≤100000) {m:Nat} (hm:m≤120):pS_l19Fill F l (m:Int)=some (fillR m l):=by
 unfold pS_l19Fill
 rw[loopF_run (B:=pS_l19Fill_b1 F) (fuel:=F) (fun i=>(l,(m:Int),fillR i l,(i:Int))) m (fillR m l) (v:=(l,(m:Int),[],0)) (by simp[fillR]) (fun i hi=>by
  have hr:∀x:ICell,roomB K.iCell (fillR i l++ [x]).length:=fun x=>roomB_of (by simp[fillR_len];omega) (by decide)
  unfold pS_l19Fill_b1 pS_l07Blank
  dsimp only
  rw[qT1 (show(i:Int)<(m:Int) by omega),br_t,fillR_succ]
  by_cases h:i<l.length
  ·rw[qT1 (show(i:Int)<(l.length:Int) by omega),br_t,gd_t (by omega),Int.toNat_natCast,qE1 h,bd_s,gd_t (hr _),bd_s]
   dsimp only
   rw[gd_t (inK64 (by omega) (by omega))]
   rfl
  ·rw[qF1 (show¬(i:Int)<(l.length:Int) by omega),br_f,bd_s,gd_t (hr _),bd_s]
   dsimp only
   rw[gd_t (inK64 (by omega) (by omega)),List.getElem?_eq_none (by omega)]
   rfl) (by unfold pS_l19Fill_b1;dsimp only;rw[qF1 (by omega),br_f]) (by omega)]
 rfl
theorem row_le {s:IScr} (h:s.Back.all rowOkB=true) {r:IRow} (hr:r∈s.Back):r.Cells.length≤120:=by
 have:=List.all_eq_true.1 h r hr
 unfold rowOkB at this
 simp only[Bool.and_eq_true,decide_eq_true_eq]at this
 omega
theorem flat_back {s:IScr} (m:Nat) (i:Nat):((s.Back.take i).flatMap fun r=>fillR m r.Cells).length=min i s.Back.length*m:=by
 rw[List.flatMap_def,ufl_len (m:=m) (fun x hx=>by obtain⟨r,_,rfl⟩:=List.mem_map.1 hx;exact fillR_len _ _)]
 simp
theorem mul_le_16 {a b:Nat} (h1:a≤100) (h2:b≤120):a*b≤12000:=Nat.mul_le_mul h1 h2
theorem pS_Look_eq {F:Nat} (hF:5000<F) {s:IScr} (hf:ScrF F s) (h:scrOkB s=true) (back:Int):pS_Look F s back=some (lookV s back):=by
 obtain⟨m,n,e1,e2,m1,m2,n1,n2,mn,em,en,a1,a2,a3,a4,a5,a6,hl,hb,hrows⟩:=scr_facts h
 have hsh:pS_Shown F s=some (shownV s):=by
  unfold pS_Shown pS_l09Shown shownV
  rw[pS_ScrOk_eq hf,h]
  simp only[bd_s,Bool.not_true,br_f]
  cases s.OnAlt with
  | true=>simp only[br_t,bd_s,if_true];rw[l07Copy_eq (by have:=grid_len a6;omega)];rfl
  | false=>simp only[br_f,bd_s,if_false,Bool.false_eq_true];rw[l07Copy_eq (by have:=grid_len a3;omega)];rfl
 unfold pS_Look lookV
 rw[pS_ScrOk_eq hf,h]
 simp only[bd_s,Bool.not_true,br_f]
 by_cases hs:s.OnAlt=true∨back≤0
 ·rw[if_pos hs]
  cases ho:s.OnAlt with
  | true=>simp only[br_t,bd_s];rw[hsh];rfl
  | false=>
   have:back≤0:=hs.resolve_left (by rw[ho];decide)
   simp only[br_f,bd_s]
   rw[qT1 this,br_t,hsh];rfl
 ·have ho:s.OnAlt=false:=Bool.eq_false_iff.2 fun q=>hs (.inl q)
  have hbk:¬back≤0:=fun q=>hs (.inr q)
  rw[if_neg hs,ho]
  simp only[br_f,bd_s]
  rw[qF1 hbk,br_f]
  rw[loopF_run (B:=pS_Look_b1 F) (fuel:=F) (fun i=>(s,IGrid.mk 0 0 [],back,(s.Back.take i).flatMap (fun r=>fillR m r.Cells),s.Back,(s.Back.length:Int),(i:Int))) s.Back.length (s,IGrid.mk 0 0 [],back,s.Back.flatMap fun r=>fillR m r.Cells) (v:=(s,IGrid.mk 0 0 [],back,[],s.Back,(s.Back.length:Int),0)) rfl (fun i hi=>by
   obtain⟨q1,q2,q3,q4,q5⟩:=idx_facts (qE1 hi) (by omega)
   have hrl:=row_le hrows (List.getElem_mem hi)
   unfold pS_Look_b1
   dsimp only
   rw[q1,br_t,gd_t q2,q3,bd_s,e1,l19Fill_eq hF (by omega) m2,bd_s,gd_t (roomB_of (by
    have:=mul_le_16 (a:=min i s.Back.length) (b:=m) (by omega) m2
    rw[List.length_append,flat_back,fillR_len];omega) (by decide)),q5,gd_t q4,take_succ_get (qE1 hi),List.flatMap_append]
   simp) (by
   unfold pS_Look_b1
   dsimp only
   rw[qF1 (by omega),br_f,List.take_length]) (by omega),bd_s]
  dsimp only
  have hfl:=look_flat em en hl
  obtain⟨hr1,hr2⟩:=look_rows em en hl
  rw[←hfl]
  have hlen:(lookAll s).flatten.length=(s.Back.length+n)*m:=by rw[ufl_len hr1,hr2]
  have hle:(s.Back.length+n)*m≤16000:=by
   have:=mul_le_16 hb m2
   rw[Nat.add_mul,Nat.mul_comm n m];omega
  rw[gd_t (roomB_of (by rw[hlen];omega) (by decide))]
  have hcl:pS_l02Clamp F back (s.Back.length:Int)=some ((s.Back.length:Int)-(lookFrom s back:Int)):=by
   unfold pS_l02Clamp lookFrom
   rw[qF1 (by omega),br_f]
   by_cases q:(s.Back.length:Int)<back
   ·rw[qT1 q,br_t];congr 1;omega
   ·rw[qF1 q,br_f];congr 1;omega
  rw[hcl,bd_s,show(s.Back.length:Int)-((s.Back.length:Int)-(lookFrom s back:Int))=(lookFrom s back:Int) by omega,e1,e2]
  have hk:lookFrom s back≤s.Back.length:=by unfold lookFrom;omega
  have p1:(lookFrom s back:Int)*(m:Int)=((lookFrom s back*m:Nat):Int):=by rw[Int.natCast_mul]
  have p2:(m:Int)*(n:Int)=((n*m:Nat):Int):=by rw[Int.natCast_mul,Int.mul_comm]
  rw[p1,p2,←Int.natCast_add,←Nat.add_mul]
  have hkm:(lookFrom s back+n)*m≤(s.Back.length+n)*m:=Nat.mul_le_mul_right _ (by omega)
  have hkm0:lookFrom s back*m≤(lookFrom s back+n)*m:=Nat.mul_le_mul_right _ (by omega)
  have hnm:n*m≤4000:=by rw[Nat.mul_comm];exact mn
  rw[gd_t (inK64 (by omega) (by omega)),gd_t (inK64 (by omega) (by omega)),gd_t (inK64 (by omega) (by omega)),gd_t (inK64 (by omega) (by omega)),hlen,gd_t (by omega),Int.toNat_natCast,Int.toNat_natCast,gd_t (by omega)]
  have hv:viewL false (lookAll s).flatten (0+lookFrom s back*m) ((lookFrom s back+n)*m-lookFrom s back*m)=(((lookAll s).drop (lookFrom s back)).take s.H.toNat).flatten:=by
   show((lookAll s).flatten.drop _).take _=_
   rw[Nat.zero_add,ufl_drop _ hr1,Nat.add_mul,Nat.add_sub_cancel_left,ufl_take _ fun x hx=>hr1 x (List.mem_of_mem_drop hx),en]
  rw[hv,List.nil_append,gd_t (roomB_of (by
   rw[ufl_len (m:=m) fun x hx=>hr1 x (List.mem_of_mem_drop (List.mem_of_mem_take hx))]
   have:(List.take s.H.toNat (List.drop (lookFrom s back) (lookAll s))).length≤n:=by rw[List.length_take,en];omega
   have:=Nat.mul_le_mul_right m this
   omega) (by decide)),en,Int.toNat_natCast]
def rowsI (s:IScr):List (List ICell):=(s.Back.map (·.Cells))++(List.range s.H.toNat).map fun y=>(s.Main.Cells.take ((y+1)*s.W.toNat)).drop (y*s.W.toNat)
theorem rowsI_at {s:IScr} {m n:Nat} (em:s.W.toNat=m) (en:s.H.toNat=n) (hl:s.Main.Cells.length=m*n) {j:Nat} (hj:j<s.Back.length+n):∃x,(rowsI s)[j]?=some x∧(lookAll s)[j]?=some (fillR m x):=by
 unfold rowsI lookAll
 rw[em,en]
 by_cases h:j<s.Back.length
 ·refine⟨s.Back[j].Cells,?_,?_⟩
  ·rw[List.getElem?_append_left (by simpa using h)];simp[h]
  ·rw[List.getElem?_append_left (by simpa using h)];simp[h]
 ·have hb:j-s.Back.length<n:=by omega
  refine⟨(s.Main.Cells.take ((j-s.Back.length+1)*m)).drop ((j-s.Back.length)*m),?_,?_⟩
  ·rw[List.getElem?_append_right (by simp;omega),List.length_map,List.getElem?_map,List.getElem?_range hb];rfl
  ·rw[List.getElem?_append_right (by simp;omega),List.length_map,List.getElem?_map,List.getElem?_range hb]
   simp only[Option.map_some]
   congr 1
   rw[fillR_full]
   have:(j-s.Back.length+1)*m≤n*m:=Nat.mul_le_mul_right _ hb
   rw[Nat.mul_comm n m]at this
   rw[List.length_drop,List.length_take,hl,Nat.min_eq_left this,Nat.add_mul];omega
theorem pI_look_eq {F:Nat} (hF:5000<F) {ps:List IPane} {i:Nat} {p:IPane} (hp:ps[i]?=some p) {s:IScr} (hps:p.Term.S=s) (h:scrOkB s=true) (back:Int):pI_Scr_look F (ps,i) back=some (lookV s back):=by
 obtain⟨m,n,e1,e2,m1,m2,n1,n2,mn,em,en,a1,a2,a3,a4,a5,a6,hl,hb,hrows⟩:=scr_facts h
 have hp:ps[i]?=some p:=hp
 unfold pI_Scr_look lookV shownV
 simp only[hp,bd_s,hps]
 by_cases hs:s.OnAlt=true∨back≤0
 ·rw[if_pos hs]
  cases ho:s.OnAlt with
  | true=>simp only[br_t,bd_s,if_true,hp,hps,ho];rw[copyGrid_eq (by have:=grid_len a6;omega)];rfl
  | false=>
   have:back≤0:=hs.resolve_left (by rw[ho];decide)
   simp only[br_f,bd_s,if_false,Bool.false_eq_true,hp,hps,ho]
   rw[qT1 this,br_t,copyGrid_eq (by have:=grid_len a3;omega)];rfl
 ·have ho:s.OnAlt=false:=Bool.eq_false_iff.2 fun q=>hs (.inl q)
  have hbk:¬back≤0:=fun q=>hs (.inr q)
  rw[if_neg hs,ho]
  simp only[br_f,bd_s]
  rw[qF1 hbk,br_f]
  simp only[hp,bd_s,hps]
  have hrl:∀l:List (List ICell),l.length≤300→roomB K.sl_iCell l.length:=fun l hl=>roomB_of (by omega) (by decide)
  rw[loopF_run (B:=pI_Scr_look_b1 F) (fuel:=F) (fun j=>(IGrid.mk 0 0 [],(ps,i),back,(s.Back.take j).map (·.Cells),s.Back,(s.Back.length:Int),(j:Int))) s.Back.length (IGrid.mk 0 0 [],(ps,i),back,s.Back.map (·.Cells)) (v:=(IGrid.mk 0 0 [],(ps,i),back,[],s.Back,(s.Back.length:Int),0)) rfl (fun j hj=>by
   obtain⟨q1,q2,q3,q4,q5⟩:=idx_facts (qE1 hj) (by omega)
   unfold pI_Scr_look_b1
   dsimp only
   rw[q1,br_t,gd_t q2,q3,bd_s,gd_t (hrl _ (by simp;omega)),q5,gd_t q4,take_succ_get (qE1 hj),List.map_append]
   rfl) (by
   unfold pI_Scr_look_b1
   dsimp only
   rw[qF1 (by omega),br_f,List.take_length]) (by omega),bd_s]
  simp only[hp,bd_s,hps]
  rw[loopF_run (B:=pI_Scr_look_b2 F) (fuel:=F) (fun j=>(IGrid.mk 0 0 [],(ps,i),back,s.Back.map (·.Cells)++(List.range j).map (fun y=>(s.Main.Cells.take ((y+1)*m)).drop (y*m)),s.H,(j:Int))) n (IGrid.mk 0 0 [],(ps,i),back,rowsI s) (v:=(IGrid.mk 0 0 [],(ps,i),back,s.Back.map (·.Cells),s.H,0)) (by simp) (fun j hj=>by
   obtain⟨f1,f2,f3⟩:=row_facts (r:=j) hj mn
   unfold pI_Scr_look_b2
   dsimp only
   rw[qT1 (show(j:Int)<s.H by omega),br_t,hp,bd_s,hps,a1,e1,f1,f2]
   rw[gd_t (inK64 (by omega) (by omega)),gd_t (inK64 (by omega) (by omega)),gd_t (inK64 (by omega) (by omega)),gd_t (by omega),Int.toNat_natCast,Int.toNat_natCast,gd_t (by omega),gd_t (hrl _ (by simp;omega)),gd_t (inK64 (by omega) (by omega)),List.range_succ,List.map_append]
   simp only[List.map_cons,List.map_nil]
   rw[Nat.add_mul j 1 m,Nat.one_mul,List.append_assoc]
   rfl) (by
   unfold pI_Scr_look_b2 rowsI
   dsimp only
   rw[qF1 (by omega),br_f,em,en]) (by omega),bd_s]
  simp only[hp,bd_s,hps]
  have hmin:(s.Back.length:Int)-(if(s.Back.length:Int)<back then(s.Back.length:Int)else back)=(lookFrom s back:Int):=by
   unfold lookFrom;split<;>omega
  rw[hmin]
  have hk:lookFrom s back≤s.Back.length:=by unfold lookFrom;omega
  rw[gd_t (inK64 (by omega) (by omega)),e1,e2,gridOf_eq hF m1 n1 mn,bd_s]
  obtain⟨hr1,hr2⟩:=look_rows em en hl
  have hri:(rowsI s).length=s.Back.length+n:=by unfold rowsI;rw[en];simp
  have hA:∀y,y≤n→(((lookAll s).drop (lookFrom s back)).take y).flatten.length=y*m:=fun y hy=>by
   rw[ufl_len (m:=m) fun x hx=>hr1 x (List.mem_of_mem_drop (List.mem_of_mem_take hx)),List.length_take,List.length_drop,hr2,Nat.min_eq_left (by omega)]
  rw[loopF_run (B:=pI_Scr_look_b3 F) (fuel:=F) (fun y=>(IGrid.mk 0 0 [],IGrid.mk (m:Int) (n:Int) ((((lookAll s).drop (lookFrom s back)).take y).flatten++List.replicate (m*n-y*m) blankV),rowsI s,(lookFrom s back:Int),(n:Int),(y:Int))) n (IGrid.mk 0 0 [],IGrid.mk (m:Int) (n:Int) (((lookAll s).drop (lookFrom s back)).take n).flatten) (v:=(IGrid.mk 0 0 [],IGrid.mk (m:Int) (n:Int) (List.replicate (m*n) blankV),rowsI s,(lookFrom s back:Int),(n:Int),0)) (by simp) (fun y hy=>by
   obtain⟨f1,f2,f3⟩:=row_facts (r:=y) hy mn
   obtain⟨x,x1,x2⟩:=rowsI_at em en hl (j:=lookFrom s back+y) (by omega)
   have hAy:=hA y (by omega)
   have hcl:((((lookAll s).drop (lookFrom s back)).take y).flatten++List.replicate (m*n-y*m) blankV).length=m*n:=by
    rw[List.length_append,hAy,List.length_replicate];omega
   unfold pI_Scr_look_b3
   dsimp only
   rw[qT1 (show(y:Int)<(n:Int) by omega),br_t,f1,f2,←Int.natCast_add,hcl,hri]
   rw[gd_t (inK64 (by omega) (by omega)),gd_t (inK64 (by omega) (by omega)),gd_t (inK64 (by omega) (by omega)),gd_t (by omega),Int.toNat_natCast,Int.toNat_natCast,gd_t (by omega),gd_t (inK64 (by omega) (by omega)),gd_t (by omega),Int.toNat_natCast,Nat.zero_add,Nat.zero_add,x1,bd_s,gd_t (inK64 (by omega) (by omega))]
   have e3:y*m+m-y*m=m:=by omega
   rw[e3]
   have hput:putL ((((lookAll s).drop (lookFrom s back)).take y).flatten++List.replicate (m*n-y*m) blankV) (y*m) (x.take m)=(((lookAll s).drop (lookFrom s back)).take (y+1)).flatten++List.replicate (m*n-(y+1)*m) blankV:=by
    have hg:((lookAll s).drop (lookFrom s back))[y]?=some (fillR m x):=by rw[List.getElem?_drop];exact x2
    rw[take_succ_get hg,List.flatten_append]
    generalize (((lookAll s).drop (lookFrom s back)).take y).flatten=A at hAy⊢
    unfold putL
    rw[List.take_append_of_le_length (by omega),List.take_of_length_le (by omega),←List.drop_drop,List.drop_append_of_le_length (by omega),show A.drop (y*m)=[]from List.drop_of_length_le (by omega),List.nil_append,List.drop_replicate,List.length_take]
    unfold fillR
    simp only[List.flatten_cons,List.flatten_nil,List.append_nil,List.append_assoc]
    rw[List.replicate_append_replicate,Nat.add_mul]
    congr 3
    omega
   rw[hput]
   rfl) (by
   unfold pI_Scr_look_b3
   dsimp only
   rw[qF1 (by omega),br_f,Nat.mul_comm m n,Nat.sub_self]
   simp) (by omega),bd_s]
  rw[Int.toNat_natCast]
theorem look_ok {s:IScr} (h:scrOkB s=true) (back:Int):gridOkB (lookV s back)=true∧(lookV s back).W=s.W∧(lookV s back).H=s.H:=by
 obtain⟨m,n,e1,e2,m1,m2,n1,n2,mn,em,en,a1,a2,a3,a4,a5,a6,hl,hb,hrows⟩:=scr_facts h
 unfold lookV shownV
 split
 ·split
  ·exact⟨a6,a4,a5⟩
  ·exact⟨a3,a1,a2⟩
 ·refine⟨?_,rfl,rfl⟩
  obtain⟨hr1,hr2⟩:=look_rows em en hl
  have hk:lookFrom s back≤s.Back.length:=by unfold lookFrom;omega
  refine gridOk_mk a3 a1.symm a2.symm ?_ ?_
  ·show(List.flatten _).length=_
   rw[ufl_len (m:=m) fun x hx=>hr1 x (List.mem_of_mem_drop (List.mem_of_mem_take hx)),List.length_take,List.length_drop,hr2,en,Nat.min_eq_left (by omega),hl,Nat.mul_comm]
  ·show(List.flatten _).all cellOkB=true
   rw[List.all_eq_true]
   intro c hc
   obtain⟨l,h1,h2⟩:=List.mem_flatten.1 hc
   have h1:=List.mem_of_mem_drop (List.mem_of_mem_take h1)
   unfold lookAll at h1
   rcases List.mem_append.1 h1 with h1|h1
   ·obtain⟨r,hr,rfl⟩:=List.mem_map.1 h1
    have hro:=List.all_eq_true.1 hrows r hr
    unfold rowOkB at hro
    rw[Bool.and_eq_true]at hro
    rcases List.mem_append.1 h2 with h2|h2
    ·exact List.all_eq_true.1 hro.2 c (List.mem_of_mem_take h2)
    ·rw[List.eq_of_mem_replicate h2];exact blank_ok
   ·obtain⟨y,_,rfl⟩:=List.mem_map.1 h1
    obtain⟨_,_,_,_,_,_,_,_,_,_,_,ha⟩:=grid_nat a3
    exact List.all_eq_true.1 ha c (List.mem_of_mem_take (List.mem_of_mem_drop h2))
structure StW (s:IState):Prop where
 z:isSizeB s.W s.H=true
 pan:∀p∈s.Panes,scrOkB p.Term.S=true
 nd:(s.Panes.map (·.Id)).Nodup
 win:WnOk s
 prm:(lvw s.Wins).Perm (s.Panes.map (·.Id))
 area:AreaOk s
theorem stW_of {s:IState} (h:stateB s=true):StW s:=by
 unfold stateB at h
 simp only[Bool.and_eq_true,Bool.not_eq_true',badP_iff,badQ_iff,badW1_iff,badW2_iff,areaB_iff,once_perm,decide_eq_true_eq]at h
 obtain⟨z,⟨l1,l2⟩,⟨n1,n2⟩,⟨⟨p,d⟩,c1⟩,⟨w,c2,u⟩,⟨x,c3,v⟩,a⟩:=h
 refine⟨z,fun y hy=> ?_,p.nodup,w,u,a⟩
 obtain⟨i,hi⟩:=List.getElem?_of_mem hy
 have h1:=(p i y hi).1
 unfold paneB paneOkB termOkB at h1
 simp only[Bool.and_eq_true]at h1
 exact h1.2.2.2.1.2
def lkV (s:IState) (act back:Int) (n:Int):IGrid:=match s.Panes.find? (fun y=>y.Id==n)with
 | some p=>lookV p.Term.S (if n=act then back else 0)
 | none=>IGrid.mk 0 0 []
theorem pane_find {s:IState} (h:StW s) {n:Int} (hn:n∈s.Panes.map (·.Id)):∃(i:Nat) (p:IPane),atV (fun y=>y.Id==n) s.Panes=(i:Int)∧s.Panes[i]?=some p∧p.Id=n∧scrOkB p.Term.S=true∧∀act back,lkV s act back n=lookV p.Term.S (if n=act then back else 0):=by
 cases hf:s.Panes.findIdx? (fun y=>y.Id==n)with
 | none=>
  obtain⟨w,hw,e⟩:=List.mem_map.1 hn
  have:=List.findIdx?_eq_none_iff.1 hf w hw
  simp[e]at this
 | some i=>
  obtain⟨p,hp,hq⟩:=findIdx_get hf
  refine⟨i,p,atV_some hf,hp,by simpa using hq,h.pan p (qM1 hp),fun act back=> ?_⟩
  obtain⟨hi,_,h3⟩:=List.findIdx?_eq_some_iff_getElem.1 hf
  unfold lkV
  rw[find_at hp hq fun j y hj hy=>by
   have:=h3 j hj
   obtain⟨hj',e⟩:=qS1.1 hy
   rw[e]at this;simpa using this]
theorem lf_panes:∀{T:Tre} {q:Qd},T.ok→(T.lf q).map (·.Pane)=lvs T.flat
 | .leaf x,q,h=>by
  show [x.Pane]=lvs [x]
  rw[lvs_one,if_neg h.1]
 | .node x a b,q,h=>by
  show(a.lf _++b.lf _).map _=lvs ([x]++(a.flat++b.flat))
  rw[lvs_app,lvs_one,if_pos (splitOk_eq h.1),lvs_app,List.map_append,lf_panes h.2.1,lf_panes h.2.2]
  rfl
theorem fitL_of {lk:Int→IGrid}:∀(T:Tre) (q:Qd),(∀r∈T.lf q,(lk r.Pane).W=r.W∧(lk r.Pane).H=r.H)→T.fitL lk q
 | .leaf x,q,h=>h (mkR x.Pane q) (by simp[Tre.lf])
 | .node x a b,q,h=>⟨fitL_of a _ fun r hr=>h r (List.mem_append_left _ hr),fitL_of b _ fun r hr=>h r (List.mem_append_right _ hr)⟩
theorem lfp_map (lk:Int→IGrid):∀(T:Tre) (q:Qd),T.lfp lk q=(T.lf q).map fun r=>leafP lk r.Pane (rq r)
 | .leaf x,q=>rfl
 | .node x a b,q=>by
  show a.lfp lk _++b.lfp lk _=(a.lf _++b.lf _).map _
  rw[lfp_map lk a,lfp_map lk b,List.map_append]
theorem all_in:∀(T:Tre) (q:Qd),T.ok→T.fits q=true→qOk q→∀r∈T.all q,qOk (rq r)
 | .leaf x,q,_,_,hq,r,hr=>by
  have:r=mkR x.Pane q:=by simpa [Tre.all]using hr
  subst this;exact hq
 | .node x a b,q,ho,hf,hq,r,hr=>by
  have hf:(room x q&&(a.fits (f1 x q)&&b.fits (f2 x q)))=true:=hf
  rw[Bool.and_eq_true,Bool.and_eq_true]at hf
  obtain⟨q1,q2⟩:=qOk_part hq hf.1 (splitOk_first ho.1).1
  have hr:r∈mkR x.Pane q::(a.all (f1 x q)++b.all (f2 x q)):=hr
  rcases List.mem_cons.1 hr with rfl|hr
  ·exact hq
  ·rcases List.mem_append.1 hr with hr|hr
   ·exact all_in a _ ho.2.1 hf.2.1 q1 r hr
   ·exact all_in b _ ho.2.2 hf.2.2 q2 r hr
theorem lf_in {T:Tre} {q:Qd} (ho:T.ok) (hf:T.fits q=true) (hq:qOk q):∀r∈T.lf q,qOk (rq r):=fun r hr=>by
 rw[←all_lf ho]at hr
 exact all_in T q ho hf hq r (List.mem_filter.1 hr).1
theorem nod_get {l:List Int} {i j:Nat} {x:Int} (h:l.Nodup) (h1:l[i]?=some x) (h2:l[j]?=some x):i=j:=by
 rw[List.Nodup,List.pairwise_iff_getElem]at h
 obtain⟨hi,e1⟩:=qS1.1 h1
 obtain⟨hj,e2⟩:=qS1.1 h2
 rcases Nat.lt_trichotomy i j with hlt|heq|hgt
 ·exact absurd (e1.trans e2.symm) (h i j hi hj hlt)
 ·exact heq
 ·exact absurd (e2.trans e1.symm) (h j i hj hi hgt)
theorem win_tree {s:IState} (h:StW s) {i:Nat} {w:IWin} (hw:s.Wins[i]?=some w):∃T:Tre,w.Tree=T.flat∧T.ok∧w.Tree.length≤31∧T.fits (0,0,s.W,s.H)=true∧placesV w.Tree s.W s.H=(T.lf (0,0,s.W,s.H),true)∧(lvs w.Tree).Nodup∧leavesV w.Tree=lvs w.Tree:=by
 obtain⟨h1,_⟩:=h.win i w hw
 have ht:=placesV_true h1
 obtain⟨T,e,ho,hp⟩:=placesV_tree ht
 obtain⟨z1,z2,z3,z4,_⟩:=isSizeB_true.1 h.z
 obtain⟨t1,t2,t3⟩:=treeB_iff.1 ht
 have hc:treeB w.Tree=true∧(1≤s.W∧s.W≤120)∧1≤s.H∧s.H≤120:=⟨ht,⟨z1,z2⟩,z3,z4⟩
 have hv:placesV w.Tree s.W s.H=if T.fits (0,0,s.W,s.H)=true then(T.lf (0,0,s.W,s.H),true)else([],false):=by
  unfold placesV
  rw[if_pos hc,hp]
 rw[hv]at h1
 cases hf:T.fits (0,0,s.W,s.H)with
 | false=>rw[hf]at h1;simp at h1
 | true=>exact⟨T,e,ho,t1,hf,by rw[hv,hf];rfl,t3,by unfold leavesV;rw[if_pos ht]⟩
theorem win_one {s:IState} (h:StW s) {i j:Nat} {w v:IWin} {n:Int} (hw:s.Wins[i]?=some w) (hv:s.Wins[j]?=some v) (h1:n∈lvs w.Tree) (h2:n∈lvs v.Tree):i=j:=by
 have nd:(lvw s.Wins).Nodup:=h.prm.nodup_iff.2 h.nd
 unfold lvw at nd
 rw[List.flatMap_def,List.Nodup,List.pairwise_flatten]at nd
 have hp:=nd.2
 rw[List.pairwise_iff_getElem]at hp
 obtain⟨hi,ei⟩:=qS1.1 hw
 obtain⟨hj,ej⟩:=qS1.1 hv
 rcases Nat.lt_trichotomy i j with hlt|heq|hgt
 ·have:=hp i j (by simpa using hi) (by simpa using hj) hlt
  simp only[List.getElem_map,ei,ej]at this
  exact absurd rfl (this n h1 n h2)
 ·exact heq
 ·have:=hp j i (by simpa using hj) (by simpa using hi) hgt
  simp only[List.getElem_map,ei,ej]at this
  exact absurd rfl (this n h2 n h1)
theorem win_fitL {s:IState} (h:StW s) {i:Nat} {w:IWin} (hw:s.Wins[i]?=some w) (hz:w.Zoom=false) {T:Tre} (e:w.Tree=T.flat) (ho:T.ok) (hpl:placesV w.Tree s.W s.H=(T.lf (0,0,s.W,s.H),true)) (hnd:(lvs w.Tree).Nodup) (hlv:leavesV w.Tree=lvs w.Tree) (act back:Int):T.fitL (lkV s act back) (0,0,s.W,s.H):=by
 refine fitL_of T _ fun r hr=> ?_
 have hpn:r.Pane∈lvs w.Tree:=by rw[e,←lf_panes (q:=(0,0,s.W,s.H)) ho];exact List.mem_map.2 ⟨r,hr,rfl⟩
 have hid:r.Pane∈s.Panes.map (·.Id):=h.prm.mem_iff.1 (by unfold lvw;exact List.mem_flatMap.2 ⟨w,qM1 hw,hpn⟩)
 obtain⟨j,p,_,hp,hpi,hsc,hlk⟩:=pane_find h hid
 obtain⟨a1,a2⟩:=h.area p (qM1 hp)
 rw[hpi]at a1 a2
 obtain⟨l1,l2,l3⟩:=look_ok hsc (if r.Pane=act then back else 0)
 rw[hlk,l2,l3,a1,a2]
 have hfi:s.Wins.findIdx? (winQ r.Pane)=some i:=by
  refine findIdx_at hw ?_ fun k v hk hv=> ?_
  ·unfold winQ;rw[hlv];simpa using hpn
  ·cases hq:winQ r.Pane v with
   | false=>rfl
   | true=>
    obtain⟨_,_,_,_,_,_,_,hlv2⟩:=win_tree h hv
    unfold winQ at hq
    rw[hlv2]at hq
    have:r.Pane∈lvs v.Tree:=by simpa using hq
    have:=win_one h hv hw this hpn
    omega
 have har:areaV s r.Pane=((placeOfV w.Tree s.W s.H r.Pane).1.W,(placeOfV w.Tree s.W s.H r.Pane).1.H):=by
  unfold areaV
  rw[hfi]
  simp only[hw]
  rw[hz]
  simp
 have hpo:placeOfV w.Tree s.W s.H r.Pane=(r,true):=by
  unfold placeOfV
  rw[hpl]
  obtain⟨k,hk⟩:=List.getElem?_of_mem hr
  have hk2:(T.lf (0,0,s.W,s.H)).find? (fun y=>y.Pane==r.Pane)=some r:=by
   refine find_at hk (by simp) fun j y hj hy=> ?_
   cases hq:(y.Pane==r.Pane)with
   | false=>rfl
   | true=>
    have hq:y.Pane=r.Pane:=by simpa using hq
    have nd:((T.lf (0,0,s.W,s.H)).map (·.Pane)).Nodup:=by rw[lf_panes ho,←e];exact hnd
    have g1:((T.lf (0,0,s.W,s.H)).map (·.Pane))[j]?=some r.Pane:=by rw[List.getElem?_map,hy,←hq];rfl
    have g2:((T.lf (0,0,s.W,s.H)).map (·.Pane))[k]?=some r.Pane:=by rw[List.getElem?_map,hk];rfl
    have:=nod_get nd g1 g2
    omega
  simp only[hk2]
 rw[har,hpo]
 exact⟨rfl,rfl⟩
theorem pI_PaneAt_eq {s:IState} {n:Int} {fuel:Nat} (hl:s.Panes.length≤1000000000) (hf:s.Panes.length<fuel):pI_PaneAt fuel s n=some (atV (fun y=>y.Id==n) s.Panes):=by
 unfold pI_PaneAt pG_slices_IndexFunc_IPane_I_PaneAt_1
 have h:=loopF_fnd (B:=pG_slices_IndexFunc_IPane_I_PaneAt_1_b1 fuel) (fun i=>(n,s.Panes,(s.Panes.length:Int),(i:Int))) s.Panes (fun y=>y.Id==n) (fun i=> .inr ((i:Int),n)) (.inl n) (fuel:=fuel) (v:=(n,s.Panes,(s.Panes.length:Int),0)) rfl (fun i x hx=>by
  obtain⟨h1,h2,h3,h4,h5⟩:=idx_facts hx (by omega)
  unfold pG_slices_IndexFunc_IPane_I_PaneAt_1_b1 pI_PaneAt_1
  simp only[h1,br_t,gd_t h2,h3,bd_s,h5,gd_t h4]
  cases x.Id==n<;>rfl) (by unfold pG_slices_IndexFunc_IPane_I_PaneAt_1_b1;simp) hf
 rw[h]
 cases hfi:s.Panes.findIdx? (fun y=>y.Id==n)with
 | none=>rw[atV_none hfi];rfl
 | some i=>rw[atV_some hfi];rfl
theorem gridNew_val {F:Nat} (hF:5000<F) {m n:Nat} (m1:1≤m) (m2:m≤120) (n1:1≤n) (n2:n≤120) (mn:m*n≤4000):pS_GridNew F (m:Int) (n:Int)=some (IGrid.mk m n (List.replicate (m*n) blankV),true):=by
 have hk:inK IntKind.i64 ((m:Int)*(n:Int)):=by rw[←Int.natCast_mul];exact inK64 (by omega) (by omega)
 unfold pS_GridNew
 rw[qF1 (by omega),qF1 (by omega),qF1 (by omega),qF1 (by omega)]
 simp only[br_f,gd_t hk,bd_s]
 rw[qF1 (show¬(4000:Int)<(m:Int)*(n:Int) by rw[←Int.natCast_mul];omega),br_f,loopF_run (B:=pS_GridNew_b1 F) (fuel:=F) (fun i=>(IGrid.mk 0 0 [],IGrid.mk (m:Int) (n:Int) (List.replicate i blankV),(m:Int),(n:Int),(i:Int))) (m*n) (IGrid.mk 0 0 [],IGrid.mk (m:Int) (n:Int) (List.replicate (m*n) blankV)) (v:=(IGrid.mk 0 0 [],IGrid.mk (m:Int) (n:Int) [],(m:Int),(n:Int),0)) rfl (fun i hi=>by
  have hr:roomB K.iCell (List.replicate i blankV++ [blankV]).length:=roomB_of (by simp;omega) (by decide)
  unfold pS_GridNew_b1 pS_l07Blank
  dsimp only
  rw[gd_t hk,←Int.natCast_mul,qT1 (show(i:Int)<((m*n:Nat):Int) by omega),br_t,bd_s]
  show gd (roomB K.iCell (List.replicate i blankV++ [blankV]).length) (gd (inK IntKind.i64 ((i:Int)+1)) (some (Sum.inl (_,IGrid.mk _ _ (List.replicate i blankV++ [blankV]),_,_,_))))=_
  rw[gd_t hr,gd_t (inK64 (by omega) (by omega)),←List.replicate_succ']
  rfl) (by unfold pS_GridNew_b1;dsimp only;rw[gd_t hk,←Int.natCast_mul,qF1 (by omega),br_f]) (by omega)]
 rfl
theorem blank_grid {m n:Nat} {W H:Int} (e1:W=m) (e2:H=n) (h:isSizeB W H=true):gridOkB (IGrid.mk W H (List.replicate (m*n) blankV))=true:=by
 unfold gridOkB
 rw[h]
 have:(List.replicate (m*n) blankV).all cellOkB=true:=List.all_eq_true.2 fun c hc=>by rw[List.eq_of_mem_replicate hc];exact blank_ok
 rw[this,e1,e2,List.length_replicate,←Int.natCast_mul]
 simp
section
variable {F:Nat} {s:IState} {w:IWin} {back:Int}
theorem term_look (hs:SG F s) (h:StW s) {n:Int} (hn:n∈s.Panes.map (·.Id)) (act b0 b:Int) (hb:b=if n=act then b0 else 0):∃(j:Nat) (p:IPane),pI_State_terminal (F+70) s n=some (s.Panes,j)∧pI_Scr_look (F+70) (s.Panes,j) b=some (lkV s act b0 n)∧
  pS_PaneAt (F+70) s n=some (j:Int)∧j<s.Panes.length∧s.Panes[j]?=some p∧pS_Look (F+70) p.Term.S b=some (lkV s act b0 n)∧gridOkB (lkV s act b0 n)=true:=by
 obtain⟨i,p,e1,e2,e3,e4,e5⟩:=pane_find h hn
 have hpl:=hs.f.f.pl
 have hfu:=hs.f.f.fu
 have hi:=(qS1.1 e2).1
 rw[e5,←hb]
 refine⟨i,p,?_,pI_look_eq (by omega) e2 rfl e4 b,?_,hi,e2,pS_Look_eq (by omega) (hs.f.p p (qM1 e2)).s e4 b,(look_ok e4 b).1⟩
 ·unfold pI_State_terminal
  rw[pI_PaneAt_eq (by omega) (by omega),e1,bd_s,gd_t (by omega),Int.toNat_natCast]
 ·rw[pS_PaneAt_eq (by omega) (by omega),e1]
theorem qplc {q:Qd} (h:qOk q):plc q.1∧plc q.2.1∧plc q.2.2.1∧plc q.2.2.2:=by unfold qOk at h;unfold plc;omega
theorem lineQ_plc {x:INode} {q:Qd} (h:qOk q) (h1:1≤x.First∧x.First≤120):plc (lineQ x q).1∧plc (lineQ x q).2.1∧plc (lineQ x q).2.2.1∧plc (lineQ x q).2.2.2:=by
 unfold qOk at h
 have b1:=mn_bounds h1.1 h1.2 h.2.2.1 (show q.2.2.1≤1000 by omega)
 have b2:=mn_bounds h1.1 h1.2 h.2.2.2.1 (show q.2.2.2≤1000 by omega)
 unfold lineQ f1 plc
 cases x.Down<;>simp only[if_true,if_false,Bool.false_eq_true]<;>omega
theorem l13First_eq {fuel:Nat} {f n:Int} (h1:1≤n) (h2:n≤1000):pS_l13First fuel f n=some (mn f n):=by
 unfold pS_l13First mn
 rw[gd_t (inK64 (by omega) (by omega))]
 by_cases q:n-2<f
 ·rw[qT1 q,br_t,gd_t (inK64 (by omega) (by omega)),if_pos q]
 ·rw[qF1 q,br_f,if_neg q]
theorem lines_at (hF:5000<F) (t:List INode) (ht:t.length≤1048576) (hf:2*t.length+100<F):∀(T:Tre) (n i:Nat) (rest:List INode) (r:IRect) (g:IGrid),T.ok→t.drop i=T.flat++rest→T.flat.length≤n→qOk (rq r)→T.fits (rq r)=true→gridOkB g=true→i≤t.length→
  recF (pS_l19Lines F) n (g,t,(i:Int),r)=some ((T.lnp (rq r)).foldl lay g)
 | .leaf x,0,i,rest,r,g,ho,hd,hn,hq,hfi,hg,hi=>by simp[Tre.flat]at hn
 | .leaf x,n+1,i,rest,r,g,ho,hd,hn,hq,hfi,hg,hi=>by
  have hx:=drop_leaf hd
  obtain⟨h1,h2,h3,h4,h5⟩:=idx_facts hx (by omega)
  have hp:(0:Int)<x.Pane:=by
   have:=ho.2
   unfold leafOk at this
   simp only[Bool.and_eq_true,decide_eq_true_eq]at this
   omega
  show pS_l19Lines F (recF (pS_l19Lines F) n) _=_
  unfold pS_l19Lines
  dsimp only
  rw[gd_t h2,h3,bd_s,qT1 hp,br_t]
  rfl
 | .node x a b,0,i,rest,r,g,ho,hd,hn,hq,hfi,hg,hi=>by simp[Tre.flat]at hn
 | .node x a b,n+1,i,rest,r,g,ho,hd,hn,hq,hfi,hg,hi=>by
  obtain⟨hx,hd1,hd2,hle⟩:=drop_node hd
  obtain⟨h1,h2,h3,h4,h5⟩:=idx_facts hx (by omega)
  have hl:(Tre.node x a b).flat.length=a.flat.length+b.flat.length+1:=by simp[Tre.flat]
  rw[hl]at hn
  have hfi:(room x (rq r)&&(a.fits (f1 x (rq r))&&b.fits (f2 x (rq r))))=true:=hfi
  rw[Bool.and_eq_true,Bool.and_eq_true]at hfi
  have hff:=splitOk_first ho.1
  obtain⟨q1,q2⟩:=qOk_part hq hfi.1 hff.1
  have h0:=splitOk_eq ho.1
  have hend:=(end_at (fuel:=F) (i:=i+1) ht hf ho.2.1 hd1 (by omega)).2
  have hg1:gridOkB (lay g (lineP x (rq r)))=true:=line_pOk x _ g hg
  have iha:=lines_at hF t ht hf a n (i+1) (b.flat++rest) (mkR r.Pane (f1 x (rq r))) (lay g (lineP x (rq r))) ho.2.1 hd1 (by omega) q1 hfi.2.1 hg1 (by omega)
  have ihb:=lines_at hF t ht hf b n (i+1+a.flat.length) rest (mkR r.Pane (f2 x (rq r))) ((a.lnp (f1 x (rq r))).foldl lay (lay g (lineP x (rq r)))) ho.2.2 hd2 (by omega) q2 hfi.2.2 (lays_ok (lnp_pOk a _) hg1) (by omega)
  obtain⟨p1,p2,p3,p4⟩:=lineQ_plc hq hff
  have hfill:=pS_GridFill_eq (F:=F) hF hg (lineC_ok x) p1 p2 p3 p4
  have fin:bd (some (lay g (lineP x (rq r)),IGrid.mk 0 0 [],mkR r.Pane (f1 x (rq r)),mkR r.Pane (f2 x (rq r)),t,(i:Int))) (fun(x10,x11,x12,x13,x14,x15)=>
   gd (inK IntKind.i64 (x15+1)) <|
   bd (recF (pS_l19Lines F) n (x10,x14,x15+1,x12)) fun x16=>
   gd (inK IntKind.i64 (x15+1)) <|
   bd (pS_l13End F x14 (x15+1)) fun x17=>
   bd (recF (pS_l19Lines F) n (x16,x14,x17,x13)) fun x18=>
   some x18)=some (((Tre.node x a b).lnp (rq r)).foldl lay g):=by
   rw[bd_s]
   dsimp only
   rw[h5,gd_t h4,iha,bd_s,gd_t h4,hend,bd_s]
   rw[show rq (mkR r.Pane (f1 x (rq r)))=f1 x (rq r)from rfl,ihb,bd_s]
   show _=some ((lineP x (rq r)::(a.lnp (f1 x (rq r))++b.lnp (f2 x (rq r)))).foldl lay g)
   rw[List.foldl_cons,List.foldl_append]
   rfl
  show pS_l19Lines F (recF (pS_l19Lines F) n) _=_
  generalize recF (pS_l19Lines F) n=slf at fin⊢
  unfold pS_l19Lines
  dsimp only
  rw[gd_t h2,h3,bd_s,qF1 (by omega),br_f]
  have hq':=hq
  unfold qOk rq at hq'
  simp only at hq'
  have b1:=mn_bounds hff.1 hff.2 hq'.2.2.1 (show r.W≤1000 by omega)
  have b2:=mn_bounds hff.1 hff.2 hq'.2.2.2.1 (show r.H≤1000 by omega)
  rw[lay_fill]at fin
  unfold lineQ lineC f1 f2 rq mkR at fin
  unfold lineQ lineC f1 rq at hfill
  cases hdn:x.Down with
  | true=>
   rw[hdn]at fin hfill
   simp only[if_true]at fin hfill
   rw[br_t,l13First_eq hq'.2.2.2.1 (show r.H≤1000 by omega)]
   rw[bd_s]
   rw[gd_t (inK64 (by omega) (by omega)),gd_t (inK64 (by omega) (by omega)),gd_t (inK64 (by omega) (by omega)),gd_t (inK64 (by omega) (by omega)),gd_t (inK64 (by omega) (by omega)),hfill,bd_s]
   exact fin
  | false=>
   rw[hdn]at fin hfill
   simp only[if_false,Bool.false_eq_true]at fin hfill
   rw[br_f,l13First_eq hq'.2.2.1 (show r.W≤1000 by omega)]
   rw[bd_s]
   rw[gd_t (inK64 (by omega) (by omega)),gd_t (inK64 (by omega) (by omega)),gd_t (inK64 (by omega) (by omega)),gd_t (inK64 (by omega) (by omega)),gd_t (inK64 (by omega) (by omega)),hfill,bd_s]
   exact fin
theorem window_loopI (hs:SG F s) (h:StW s) {k:Nat} (hw:s.Wins[k]?=some w) {T:Tre} (e:w.Tree=T.flat) (ho:T.ok) (h31:w.Tree.length≤31) {q:Qd} (hf:T.fits q=true) (hq:qOk q) {G:IGrid} (hG:gridOkB G=true) (z:IGrid) :
  loopF (pI_State_window_b1 (F+70)) (F+70) (s,w,z,G,back,T.all q,((T.all q).length:Int),0)=some (z,(T.pat (lkV s w.Active back) q).foldl lay G):=by
 have hfu:=hs.f.f.fu
 have hal:=all_len T q
 rw[←e]at hal
 have hpl:=pat_len (lkV s w.Active back) T q
 rw[←e]at hpl
 have hids:∀x∈T.flat,x.Pane≠0→x.Pane∈s.Panes.map (·.Id):=fun x hx hx0=>h.prm.mem_iff.1 (by
  unfold lvw
  refine List.mem_flatMap.2 ⟨w,qM1 hw,?_⟩
  rw[e]
  unfold lvs
  exact List.mem_map.2 ⟨x,List.mem_filter.2 ⟨hx,by simpa using hx0⟩,rfl⟩)
 have hok:=pat_pOk (lk:=lkV s w.Active back) T q (fun x hx hx0=>by
  obtain⟨_,_,_,_,_,_,_,_,h8⟩:=term_look hs h (hids x hx hx0) w.Active back _ rfl
  exact h8) ho
 refine loopF_run (B:=pI_State_window_b1 (F+70)) (fuel:=F+70) (fun i=>(s,w,z,((T.pat (lkV s w.Active back) q).take i).foldl lay G,back,T.all q,((T.all q).length:Int),(i:Int))) w.Tree.length _ rfl (fun i hi=> ?_) ?_ (by omega)
 ·have hx:T.flat[i]?=some (w.Tree[i]):=by rw[←e];exact qE1 hi
  have hxm:w.Tree[i]∈T.flat:=qM1 hx
  have hxt:w.Tree[i]?=some w.Tree[i]:=qE1 hi
  obtain⟨r,p,r1,r2,r3,r4⟩:=pat_at (lk:=lkV s w.Active back) T q i _ hx ho
  generalize w.Tree[i]=x at hx hxm hxt r3 r4
  have hqr:=all_in T q ho hf hq r (qM1 r1)
  obtain⟨u1,u2,u3,u4⟩:=qplc hqr
  have hgi:gridOkB (((T.pat (lkV s w.Active back) q).take i).foldl lay G)=true:=lays_ok (fun p hp=>hok p (List.mem_of_mem_take hp)) hG
  rw[take_succ_get r2,List.foldl_append,List.foldl_cons,List.foldl_nil]
  generalize ((T.pat (lkV s w.Active back) q).take i).foldl lay G=g at hgi⊢
  unfold pI_State_window_b1
  dsimp only
  rw[qT1 (show(i:Int)<((T.all q).length:Int) by omega),br_t,gd_t (by omega),Int.toNat_natCast,Nat.zero_add,r1,bd_s]
  rcases r4 with⟨hx0,rfl⟩ |⟨hx0,f,f1',f2',rfl⟩
  ·obtain⟨j,p0,t1,t2,t3,t4,t5,t6,t7⟩:=term_look hs h (hids x hxm hx0) w.Active back _ rfl
   rw[show(r.Pane==0)=false by rw[r3];simpa using hx0,br_f]
   have hsel:br (r.Pane==w.Active) (some (s,w,z,g,r,back,T.all q,back,((T.all q).length:Int),(i:Int))) (some (s,w,z,g,r,back,T.all q,0,((T.all q).length:Int),(i:Int)))=some (s,w,z,g,r,back,T.all q,(if x.Pane=w.Active then back else 0),((T.all q).length:Int),(i:Int)):=by
    rw[r3]
    by_cases c:x.Pane=w.Active
    ·rw[if_pos c,show(x.Pane==w.Active)=true by simpa using c,br_t]
    ·rw[if_neg c,show(x.Pane==w.Active)=false by simpa using c,br_f]
   rw[hsel,bd_s]
   dsimp only
   rw[r3,t1,bd_s]
   dsimp only
   rw[t2,bd_s,pI_paste_eq (by omega) hgi t7 (show plc r.X from u1) (show plc r.Y from u2),bd_s,bd_s]
   dsimp only
   rw[gd_t (inK64 (by omega) (by omega)),lay_paste]
   rfl
  ·have hi1:=(qS1.1 f1').1
   have hff:1≤x.First∧x.First≤120:=by
    have hn:=(ok_sh ho).2 x hxm
    unfold nodeOk at hn
    rcases Bool.or_eq_true _ _▸hn with hn|hn
    ·exact absurd hx0 (leafOk_ne hn)
    ·exact splitOk_first hn
   have hqr':=hqr
   unfold qOk rq at hqr'
   simp only at hqr'
   have b1:=mn_bounds hff.1 hff.2 hqr'.2.2.1 (show r.W≤1000 by omega)
   have b2:=mn_bounds hff.1 hff.2 hqr'.2.2.2.1 (show r.H≤1000 by omega)
   obtain⟨p1,p2,p3,p4⟩:=lineQ_plc hqr hff
   have hfill:=pI_GridFill_eq (F:=F+70) (by omega) hgi (lineC_ok x) p1 p2 p3 p4
   rw[show(r.Pane==0)=true by rw[r3,hx0];rfl,br_t,gd_t (inK64 (v:=(i:Int)+1) (by omega) (by omega)),gd_t (by omega),show 0+((i:Int)+1).toNat=i+1 by omega,f1',bd_s,gd_t (by omega),hxt,bd_s]
   have g1:f.X=(f1 x (rq r)).1:=congrArg (·.1) f2'
   have g2:f.Y=(f1 x (rq r)).2.1:=congrArg (·.2.1) f2'
   have g3:f.W=(f1 x (rq r)).2.2.1:=congrArg (·.2.2.1) f2'
   have g4:f.H=(f1 x (rq r)).2.2.2:=congrArg (·.2.2.2) f2'
   rw[←lay_fill]at hfill
   generalize lay g (lineP x (rq r))=R at hfill⊢
   unfold f1 rq at g1 g2 g3 g4
   unfold lineQ lineC f1 rq at hfill
   rw[g1,g2,g3,g4]
   cases hdn:x.Down with
   | true=>
    rw[hdn]at hfill
    simp only[if_true]at hfill⊢
    rw[br_t,gd_t (inK64 (by omega) (by omega)),hfill,bd_s,bd_s]
    dsimp only
    rw[gd_t (inK64 (by omega) (by omega))]
    rfl
   | false=>
    rw[hdn]at hfill
    simp only[if_false,Bool.false_eq_true]at hfill⊢
    rw[br_f,gd_t (inK64 (by omega) (by omega)),hfill,bd_s,bd_s]
    dsimp only
    rw[gd_t (inK64 (by omega) (by omega))]
    rfl
 ·unfold pI_State_window_b1
  dsimp only
  rw[qF1 (by omega),br_f,List.take_of_length_le (by omega)]
theorem lf_all {T:Tre} {q:Qd} (ho:T.ok) {r:IRect} (hr:r∈T.lf q):r∈T.all q:=by
 rw[←all_lf ho]at hr
 exact(List.mem_filter.1 hr).1
theorem window_loopS (hs:SG F s) (h:StW s) {k:Nat} (hw:s.Wins[k]?=some w) {T:Tre} (e:w.Tree=T.flat) (ho:T.ok) (h31:w.Tree.length≤31) {q:Qd} (hf:T.fits q=true) (hq:qOk q) {G:IGrid} (hG:gridOkB G=true) (z:IGrid) :
  loopF (pS_Window_b1 (F+70)) (F+70) (s,z,w,G,back,T.lf q,((T.lf q).length:Int),0)=some (z,(T.lfp (lkV s w.Active back) q).foldl lay G):=by
 have hfu:=hs.f.f.fu
 have hll:=lf_len T q
 rw[←e]at hll
 have hids:∀r∈T.lf q,r.Pane∈s.Panes.map (·.Id):=fun r hr=>h.prm.mem_iff.1 (by
  unfold lvw
  refine List.mem_flatMap.2 ⟨w,qM1 hw,?_⟩
  rw[e,←lf_panes (q:=q) ho]
  exact List.mem_map.2 ⟨r,hr,rfl⟩)
 have hmap:=lfp_map (lkV s w.Active back) T q
 have hok:∀p∈T.lfp (lkV s w.Active back) q,pOk p:=fun p hp=>by
  rw[hmap]at hp
  obtain⟨r,hr,rfl⟩:=List.mem_map.1 hp
  obtain⟨_,_,_,_,_,_,_,_,h8⟩:=term_look hs h (hids r hr) w.Active back _ rfl
  exact leaf_pOk h8 _
 refine loopF_run (B:=pS_Window_b1 (F+70)) (fuel:=F+70) (fun i=>(s,z,w,((T.lfp (lkV s w.Active back) q).take i).foldl lay G,back,T.lf q,((T.lf q).length:Int),(i:Int))) (T.lf q).length _ rfl (fun i hi=> ?_) ?_ (by omega)
 ·have r1:(T.lf q)[i]?=some (T.lf q)[i]:=qE1 hi
  have hrm:(T.lf q)[i]∈T.lf q:=List.getElem_mem hi
  generalize (T.lf q)[i]=r at r1 hrm
  obtain⟨u1,u2,u3,u4⟩:=qplc (all_in T q ho hf hq r (lf_all ho hrm))
  have hgi:gridOkB (((T.lfp (lkV s w.Active back) q).take i).foldl lay G)=true:=lays_ok (fun p hp=>hok p (List.mem_of_mem_take hp)) hG
  have r2:(T.lfp (lkV s w.Active back) q)[i]?=some (leafP (lkV s w.Active back) r.Pane (rq r)):=by rw[hmap,List.getElem?_map,r1];rfl
  rw[take_succ_get r2,List.foldl_append,List.foldl_cons,List.foldl_nil]
  generalize ((T.lfp (lkV s w.Active back) q).take i).foldl lay G=g at hgi⊢
  obtain⟨j,p0,t1,t2,t3,t4,t5,t6,t7⟩:=term_look hs h (hids r hrm) w.Active back _ rfl
  unfold pS_Window_b1
  dsimp only
  rw[qT1 (show(i:Int)<((T.lf q).length:Int) by omega),br_t,gd_t (by omega),Int.toNat_natCast,Nat.zero_add,r1,bd_s]
  have hsel:br (r.Pane==w.Active) (some (s,z,w,g,r,back,back,T.lf q,((T.lf q).length:Int),(i:Int))) (some (s,z,w,g,r,back,0,T.lf q,((T.lf q).length:Int),(i:Int)))=some (s,z,w,g,r,back,(if r.Pane=w.Active then back else 0),T.lf q,((T.lf q).length:Int),(i:Int)):=by
   by_cases c:r.Pane=w.Active
   ·rw[if_pos c,show(r.Pane==w.Active)=true by simpa using c,br_t]
   ·rw[if_neg c,show(r.Pane==w.Active)=false by simpa using c,br_f]
  rw[hsel,bd_s]
  dsimp only
  rw[t3,bd_s,gd_t (by omega),Int.toNat_natCast,t5,bd_s,t6,bd_s,pS_GridPaste_eq (by omega) hgi t7 (show plc r.X from u1) (show plc r.Y from u2),bd_s,gd_t (inK64 (by omega) (by omega)),lay_paste]
  rfl
 ·unfold pS_Window_b1
  dsimp only
  rw[qF1 (by omega),br_f,List.take_of_length_le (by rw[hmap,List.length_map];omega)]
theorem areasOf_eq {T:Tre} {t:List INode} (ht:t.length≤31) (hF:1000<F) (e:t=T.flat) (ho:T.ok) {W H:Int} (hf:T.fits (0,0,W,H)=true) (hq:qOk (0,0,W,H)):pI_areasOf F t W H=some (T.all (0,0,W,H),true):=by
 unfold pI_areasOf
 obtain⟨o,h1,h2,h3⟩:=put_at F t (by omega) (by omega) T F 0 [] (IRect.mk 0 0 0 W H) [] ho (by rw[List.drop_zero,List.append_nil];exact e) (by rw[←e];omega) hq (by rw[←e];simp;omega)
 rw[show((0:Nat):Int)=0 from rfl,show rq (IRect.mk 0 0 0 W H)=(0,0,W,H)from rfl]at h1
 have e2:=h2 hf
 rw[List.nil_append]at e2
 rw[h1,e2,bd_s,show rq (IRect.mk 0 0 0 W H)=(0,0,W,H)from rfl,hf]
theorem Window_at (hs:SG F s) (hb:stateB s=true) (n back:Int) {k:Nat} (hfi:s.Wins.findIdx? (fun y=>y.Id==n)=some k):∃w g,s.Wins[k]?=some w∧pI_State_window (F+70) s w back=some g∧pS_Window (F+70) s n back=some g∧gridOkB g=true:=by
 have hfu:=hs.f.f.fu
 have hwl:=hs.f.f.wl
 obtain⟨w,hw,_⟩:=findIdx_get hfi
 refine⟨w,?_⟩
 unfold pS_Window
 rw[pS_WinAt_eq (by omega) (by omega),pS_StateOk_eq hs]
 simp only[bd_s,hb,Bool.not_true,br_f,hw,true_and]
 rw[atV_some hfi,qF1 (by omega),br_f]
 have hk:=(qS1.1 hw).1
 rw[gd_t (by omega),Int.toNat_natCast,hw,bd_s]
 have h:=stW_of hb
 obtain⟨T,e,ho,h31,hf,hpl,hnd,hlv⟩:=win_tree h hw
 obtain⟨z1,z2,z3,z4,z5⟩:=isSizeB_true.1 h.z
 have hact:w.Active∈s.Panes.map (·.Id):=h.prm.mem_iff.1 (by
  unfold lvw
  have:=(h.win k w hw).2.2.2.2.2
  exact List.mem_flatMap.2 ⟨w,qM1 hw,by simpa using this⟩)
 obtain⟨j,p0,t1,t2,t3,t4,t5,t6,t7⟩:=term_look hs h hact w.Active back back (by rw[if_pos rfl])
 unfold pI_State_window
 cases hz:w.Zoom with
 | true=>
  simp only[br_t]
  refine⟨lkV s w.Active back w.Active,?_,?_,t7⟩
  ·rw[t1,bd_s]
   dsimp only
   rw[t2,bd_s]
  ·rw[t3,bd_s,gd_t (by omega),Int.toNat_natCast,t5,bd_s,t6,bd_s]
 | false=>
  simp only[br_f]
  obtain⟨m,hm⟩:∃m:Nat,s.W=m:=⟨s.W.toNat,by omega⟩
  obtain⟨nn,hn⟩:∃m:Nat,s.H=m:=⟨s.H.toNat,by omega⟩
  have mn:m*nn≤4000:=by
   rw[hm,hn,←Int.natCast_mul]at z5;omega
  have hq:qOk (0,0,s.W,s.H):=by unfold qOk;simp only;omega
  have hG:gridOkB (IGrid.mk s.W s.H (List.replicate (m*nn) blankV))=true:=blank_grid hm hn h.z
  have hl1:gridOkB ((T.lnp (0,0,s.W,s.H)).foldl lay (IGrid.mk s.W s.H (List.replicate (m*nn) blankV)))=true:=lays_ok (lnp_pOk T _) hG
  have hfit:=win_fitL h hw hz e ho hpl hnd hlv w.Active back
  have hI:=window_loopI (back:=back) hs h hw e ho h31 hf hq hG (IGrid.mk 0 0 [])
  have hS:=window_loopS (back:=back) hs h hw e ho h31 hf hq hl1 (IGrid.mk 0 0 [])
  rw[lay_tree ho hf hq hfit]at hI
  have hln:=lines_at (F:=F+70) (by omega) w.Tree (by omega) (by omega) T (F+70) 0 [] (IRect.mk 0 0 0 s.W s.H) (IGrid.mk s.W s.H (List.replicate (m*nn) blankV)) ho (by rw[List.drop_zero,List.append_nil];exact e) (by rw[←e];omega) hq hf hG (by omega)
  have gI:=gridOf_eq (F:=F+70) (by omega) (m:=m) (n:=nn) (by omega) (by omega) mn
  have gS:=gridNew_val (F:=F+70) (by omega) (m:=m) (n:=nn) (by omega) (by omega) (by omega) (by omega) mn
  rw[←hm,←hn]at gI gS
  refine⟨(T.lfp (lkV s w.Active back) (0,0,s.W,s.H)).foldl lay ((T.lnp (0,0,s.W,s.H)).foldl lay (IGrid.mk s.W s.H (List.replicate (m*nn) blankV))),?_,?_,?_⟩
  rotate_left
  ·rw[gS,bd_s]
   dsimp only
   rw[show((0:Nat):Int)=0 from rfl]at hln
   rw[hln,bd_s,pS_Places_eq (by omega),hpl,bd_s]
   dsimp only
   rw[show rq (IRect.mk 0 0 0 s.W s.H)=(0,0,s.W,s.H)from rfl,hS,bd_s]
  ·have hlfok:∀p∈T.lfp (lkV s w.Active back) (0,0,s.W,s.H),pOk p:=fun p hp=>by
    rw[lfp_map]at hp
    obtain⟨r,hr,rfl⟩:=List.mem_map.1 hp
    obtain⟨_,_,_,_,_,_,_,_,h8⟩:=term_look hs h (n:=r.Pane) (h.prm.mem_iff.1 (by
     unfold lvw
     refine List.mem_flatMap.2 ⟨w,qM1 hw,?_⟩
     rw[e,←lf_panes (q:=(0,0,s.W,s.H)) ho]
     exact List.mem_map.2 ⟨r,hr,rfl⟩)) w.Active back _ rfl
    exact leaf_pOk h8 _
   exact lays_ok hlfok hl1
  ·rw[gI,bd_s,areasOf_eq h31 (by omega) e ho hf hq,bd_s]
   dsimp only
   rw[hI,bd_s]
end
def turnC (r:Int):ICell:=ICell.mk r (IAttr.mk 0 0 false false true)
def barC (t:ByteArray) (i:Nat):ICell:=turnC (match t.data.toList[i]? with
 | some b=>(b.toNat:Int)
 | none=>32)
def barV (g:IGrid) (p:Nat) (t:ByteArray):IGrid:=IGrid.mk g.W g.H (mix g.Cells (fun j=>decide (p≤j)) fun j=>barC t (j-p))
theorem bytes_at (t:ByteArray) (i:Nat):t[i]?=t.data.toList[i]?:=by
 by_cases h:i<t.size
 ·have h2:i<t.data.toList.length:=by rw[Array.length_toList];exact h
  rw[byte_at h,qE1 h2]
  rfl
 ·have h2:¬i<t.data.toList.length:=by rw[Array.length_toList];exact h
  rw[List.getElem?_eq_none (by omega),getElem?_neg t i h]
section
variable {F:Nat} {s:IState} {g:IGrid} {m n:Nat}
theorem bar_S (hF:5000<F) (e1:g.W=(m:Int)) (e2:g.H=(n:Int)) (hg:gridOkB g=true) (t:ByteArray) (v:IView) (w:IWin) (b:Int) :
  loopF (pS_Picture_b1 F) F (s,v,g,w,(m:Int),(n:Int),b,t,0)=some (s,v,barV g ((n-1)*m) t,w,(m:Int),(n:Int),b):=by
 obtain⟨m',n',q1,q2,m1,m2,n1,n2,mn,el,em,_⟩:=grid_nat hg
 obtain rfl:m=m':=by omega
 obtain rfl:n=n':=by omega
 obtain⟨f1,f2,f3⟩:=row_facts (r:=n-1) (n:=n) (m:=m) (by omega) mn
 have e3:(n:Int)-1=((n-1:Nat):Int):=by omega
 have hend:(n-1)*m+m=m*n:=by
  have:(n-1+1)*m=(n-1)*m+m:=by rw[Nat.add_mul,Nat.one_mul]
  rw[show n-1+1=n by omega,Nat.mul_comm]at this
  omega
 generalize (n-1)*m=P at f1 f3 hend⊢
 have key:=loopF_run (B:=pS_Picture_b1 F) (fuel:=F) (fun i=>(s,v,IGrid.mk g.W g.H (mix g.Cells (fun j=>decide (P≤j)&&decide (j<P+i)) fun j=>barC t (j-P)),w,(m:Int),(n:Int),b,t,(i:Int))) m (s,v,barV g (P) t,w,(m:Int),(n:Int),b) (v:=(s,v,g,w,(m:Int),(n:Int),b,t,0)) (by rw[mix_none fun j _=>by simp only[Bool.and_eq_false_iff,decide_eq_false_iff_not];omega];rfl) (fun i hi=>by
  have hp:P+i<g.Cells.length:=by omega
  have hset:(mix g.Cells (fun j=>decide (P≤j)&&decide (j<P+i)) fun j=>barC t (j-P)).set (P+i) (barC t i)=mix g.Cells (fun j=>decide (P≤j)&&decide (j<P+(i+1))) fun j=>barC t (j-P):=by
   refine mix_set hp (by simp) fun j hj=>bool_iff ?_
   simp only[Bool.or_eq_true,Bool.and_eq_true,decide_eq_true_eq,beq_iff_eq]
   omega
  have tail:∀c:ICell,c=barC t i→(gd (inK IntKind.i64 ((n:Int)-1)) <|
   gd (inK IntKind.i64 (((n:Int)-1)*(m:Int))) <|
   gd (inK IntKind.i64 (((n:Int)-1)*(m:Int)+(i:Int))) <|
   gd (0≤((n:Int)-1)*(m:Int)+(i:Int)∧((n:Int)-1)*(m:Int)+(i:Int)<((mix g.Cells (fun j=>decide (P≤j)&&decide (j<P+i)) fun j=>barC t (j-P)).length:Int)) <|
   bd ((mix g.Cells (fun j=>decide (P≤j)&&decide (j<P+i)) fun j=>barC t (j-P))[0+(((n:Int)-1)*(m:Int)+(i:Int)).toNat]?) fun _=>
   gd (inK IntKind.i64 ((i:Int)+1)) <|
   some (Sum.inl (α:=IState×IView×IGrid×IWin×Int×Int×Int×ByteArray×Int) (β:=IState×IView×IGrid×IWin×Int×Int×Int) (s,v,IGrid.mk g.W g.H ((mix g.Cells (fun j=>decide (P≤j)&&decide (j<P+i)) fun j=>barC t (j-P)).set (0+(((n:Int)-1)*(m:Int)+(i:Int)).toNat) c),w,(m:Int),(n:Int),b,t,(i:Int)+1))) =
   some (.inl (s,v,IGrid.mk g.W g.H (mix g.Cells (fun j=>decide (P≤j)&&decide (j<P+(i+1))) fun j=>barC t (j-P)),w,(m:Int),(n:Int),b,t,((i+1:Nat):Int))):=by
   rintro c rfl
   rw[e3,f1,←Int.natCast_add,Int.toNat_natCast,Nat.zero_add,mix_len,gd_t (inK64 (by omega) (by omega)),gd_t (inK64 (by omega) (by omega)),gd_t (inK64 (by omega) (by omega)),gd_t (by omega),qE1 (by rw[mix_len];exact hp),bd_s,gd_t (inK64 (by omega) (by omega)),hset]
   rfl
  unfold pS_Picture_b1
  dsimp only
  rw[qT1 (show(i:Int)<(m:Int) by omega),br_t]
  by_cases h:i<t.size
  ·rw[qT1 (show(i:Int)<(t.size:Int) by omega),br_t,gd_t (by omega),Int.toNat_natCast,byte_at h,bd_s,bd_s]
   dsimp only
   refine tail _ ?_
   unfold barC
   rw[←bytes_at,byte_at h]
   rfl
  ·rw[qF1 (show¬(i:Int)<(t.size:Int) by omega),br_f,bd_s]
   dsimp only
   refine tail _ ?_
   unfold barC
   rw[←bytes_at,getElem?_neg t i h]
   rfl) (by
  unfold pS_Picture_b1
  dsimp only
  rw[qF1 (by omega),br_f]
  unfold barV
  rw[mix_congr (D':=fun j=>decide (P≤j)) (v':=fun j=>barC t (j-P)) (fun j hj=>by
   rw[qT1 (show j<P+m by omega),Bool.and_true]) fun _ _ _=>rfl]) (by omega)
 exact key
theorem bar_I (hF:5000<F) (e1:g.W=(m:Int)) (e2:g.H=(n:Int)) (hg:gridOkB g=true) {t:ByteArray} (ht:t.size<5000) (v:IView) (w:IWin) (b:Int) :
  loopF (pI_Picture_b1 F) F (s,v,w,IGrid.mk g.W g.H (putL g.Cells ((n-1)*m) (List.replicate m (turnC 32))),(m:Int),(n:Int),b,((n-1)*m,m),t.data.toList,(t.data.toList.length:Int),0)=some (s,v,w,barV g ((n-1)*m) t,(m:Int),(n:Int),b):=by
 obtain⟨m',n',q1,q2,m1,m2,n1,n2,mn,el,em,_⟩:=grid_nat hg
 obtain rfl:m=m':=by omega
 obtain rfl:n=n':=by omega
 have hend:(n-1)*m+m=m*n:=by
  have:(n-1+1)*m=(n-1)*m+m:=by rw[Nat.add_mul,Nat.one_mul]
  rw[show n-1+1=n by omega,Nat.mul_comm]at this
  omega
 have hlt:t.data.toList.length=t.size:=Array.length_toList
 let V:Nat→Nat→ICell:=fun i j=>if j-(n-1)*m<i then barC t (j-(n-1)*m)else turnC 32
 have h0:putL g.Cells ((n-1)*m) (List.replicate m (turnC 32))=mix g.Cells (fun j=>decide ((n-1)*m≤j)) (V 0):=by
  refine List.ext_getElem? fun j=> ?_
  rw[mix_get]
  by_cases hj:j<g.Cells.length
  ·rw[qE1 hj,Option.map_some]
   by_cases hp:(n-1)*m≤j
   ·have:=putL_in (l:=g.Cells) (l2:=List.replicate m (turnC 32)) (p:=(n-1)*m) (i:=j-(n-1)*m) (by simp;omega) (by simp;omega)
    rw[show(n-1)*m+(j-(n-1)*m)=j by omega]at this
    rw[this,qT1 hp,List.getElem?_replicate,if_pos (by omega)]
    rfl
   ·rw[putL_out (by simp;omega) (.inl (by omega)),qE1 hj,qF1 hp]
    rfl
  ·rw[List.getElem?_eq_none (by rw[putL_len (by simp;omega)];omega),List.getElem?_eq_none (by omega)]
   rfl
 rw[h0]
 refine loopF_run (B:=pI_Picture_b1 F) (fuel:=F) (fun i=>(s,v,w,IGrid.mk g.W g.H (mix g.Cells (fun j=>decide ((n-1)*m≤j)) (V i)),(m:Int),(n:Int),b,((n-1)*m,m),t.data.toList,(t.data.toList.length:Int),(i:Int))) t.data.toList.length _ rfl (fun i hi=> ?_) ?_ (by omega)
 ·have hb:t.data.toList[i]?=some t.data.toList[i]:=qE1 hi
  unfold pI_Picture_b1
  dsimp only
  rw[qT1 (by omega),br_t,gd_t (by omega),Int.toNat_natCast,Nat.zero_add,hb,bd_s]
  by_cases him:i<m
  ·have hp:(n-1)*m+i<g.Cells.length:=by omega
   have hget:(mix g.Cells (fun j=>decide ((n-1)*m≤j)) (V i))[(n-1)*m+i]?=some (turnC 32):=by
    rw[mix_get,qE1 hp,Option.map_some,qT1 (by omega)]
    simp only[if_true,V]
    rw[if_neg (by omega)]
   rw[qT1 (by omega),br_t,gd_t (by omega),hget,bd_s,bd_s]
   dsimp only
   rw[gd_t (inK64 (by omega) (by omega))]
   have hset:(mix g.Cells (fun j=>decide ((n-1)*m≤j)) (V i)).set ((n-1)*m+i) (barC t i)=mix g.Cells (fun j=>decide ((n-1)*m≤j)) (V (i+1)):=by
    refine List.ext_getElem? fun j=> ?_
    rw[List.getElem?_set,mix_get,mix_get,mix_len]
    by_cases hj:(n-1)*m+i=j
    ·subst hj
     rw[if_pos rfl,if_pos hp,qE1 hp,Option.map_some,qT1 (by omega)]
     simp only[if_true,V]
     rw[if_pos (by omega),Nat.add_sub_cancel_left]
    ·rw[if_neg hj]
     cases hjg:g.Cells[j]? with
     | none=>rfl
     | some d=>
      simp only[Option.map_some]
      by_cases hpj:(n-1)*m≤j
      ·rw[qT1 hpj]
       simp only[if_true,V]
       by_cases hc:j-(n-1)*m<i
       ·rw[if_pos hc,if_pos (by omega)]
       ·rw[if_neg hc,if_neg (by omega)]
      ·rw[qF1 hpj];rfl
   have hbc:ICell.mk (t.data.toList[i].toNat:Int) (turnC 32).A=barC t i:=by
    unfold barC;rw[hb];rfl
   rw[hbc,hset]
   rfl
  ·rw[qF1 (by omega),br_f,bd_s]
   dsimp only
   rw[gd_t (inK64 (by omega) (by omega)),mix_congr (D':=fun j=>decide ((n-1)*m≤j)) (v':=V (i+1)) (fun _ _=>rfl) fun j hj _=>by
    simp only[V]
    rw[if_pos (by omega),if_pos (by omega)]]
   rfl
 ·unfold pI_Picture_b1
  dsimp only
  rw[qF1 (by omega),br_f]
  unfold barV
  rw[mix_congr (D':=fun j=>decide ((n-1)*m≤j)) (v':=fun j=>barC t (j-(n-1)*m)) (fun _ _=>rfl) fun j hj _=>by
   simp only[V]
   by_cases hc:j-(n-1)*m<t.data.toList.length
   ·rw[if_pos hc]
   ·rw[if_neg hc]
    unfold barC
    rw[List.getElem?_eq_none (by omega)]]
end
section
variable {F:Nat} {s:IState}
theorem scr_xy {s:IScr} (h:scrOkB s=true):0≤s.X∧s.X≤120∧0≤s.Y∧s.Y≤120:=by
 obtain⟨m,n,e1,e2,m1,m2,n1,n2,_⟩:=scr_facts h
 unfold scrOkB scrRestB hasB at h
 simp only[Bool.and_eq_true,decide_eq_true_eq]at h
 obtain⟨_,⟨⟨a,b⟩,c,d⟩,_⟩:=h
 omega
theorem place_in (t:List INode) {w h:Int} (hw:1≤w∧w≤120) (hh:1≤h∧h≤120) (p:Int):0≤(placeOfV t w h p).1.X∧(placeOfV t w h p).1.X≤1000∧0≤(placeOfV t w h p).1.Y∧(placeOfV t w h p).1.Y≤1000:=by
 unfold placeOfV
 cases hf:(placesV t w h).1.find? (fun r=>r.Pane==p)with
 | none=>decide
 | some r=>
  have hr:=List.mem_of_find?_eq_some hf
  unfold placesV at hr
  split at hr
  ·rename_i hc
   obtain⟨T,e,ho,hp⟩:=placesV_tree hc.1
   rw[hp]at hr
   dsimp only at hr
   split at hr
   ·rename_i hfit
    have:=lf_in ho hfit (show qOk (0,0,w,h) by unfold qOk;simp only;omega) r hr
    unfold qOk rq at this
    simp only at this⊢
    omega
   ·simp at hr
  ·simp at hr
def viewV (g:IGrid) (m n:Nat) (hide:Bool) (back X Y:Int):IView:=if(decide (0<back)||(hide||(decide ((n:Int)-1≤Y)||decide ((m:Int)≤X))))=true then IView.mk g 0 0 true else IView.mk g X Y false
theorem status_I (hs:SG F s) (hB:StB s) {x:ISess} {j:Nat} (hx:s.Sess[j]?=some x):pI_State_status (F+70) s x=some (x.Wins.foldl (stepT s x.Active) (ByteArray.mk #[91]++x.Name++ByteArray.mk #[93]))∧(x.Wins.foldl (stepT s x.Active) (ByteArray.mk #[91]++x.Name++ByteArray.mk #[93])).size<5000:=by
 have hw:=wordB_size (hB.ses j x hx)
 have z1:(ByteArray.mk #[91]).size=1:=rfl
 have z2:(ByteArray.mk #[93]).size=1:=rfl
 have hxm:=qM1 hx
 have hz:(ByteArray.mk #[91]++x.Name++ByteArray.mk #[93]).size≤1000:=by simp only[ByteArray.size_append];omega
 constructor
 ·unfold pI_State_status
  rw[gd_p (by omega),gd_p (by simp only[ByteArray.size_append];omega),pI_status_loop hs hB hxm _ hz]
  rfl
 ·have h1:=fold_size hB (act:=x.Active) x.Wins (ByteArray.mk #[91]++x.Name++ByteArray.mk #[93]) (sess_ids hB hxm)
  have h2:x.Wins.length≤(ssw s.Sess).length:=by
   unfold ssw
   obtain⟨a,b,e⟩:=List.append_of_mem hxm
   rw[e,List.flatMap_append,List.flatMap_cons]
   simp only[List.length_append]
   omega
  have h3:=hB.p2.length_eq
  rw[List.length_map]at h3
  have:=hB.c2
  simp only[ByteArray.size_append]at h1⊢
  omega
theorem sess_act (hb:stateB s=true) {x:ISess} {j:Nat} (hx:s.Sess[j]?=some x):x.Active∈s.Wins.map (·.Id):=by
 have hB:=stB_of hb
 refine sess_ids hB (qM1 hx) _ ?_
 unfold stateB at hb
 simp only[Bool.and_eq_true,Bool.not_eq_true']at hb
 have:=any_range.1 hb.2.2.2.2.2.1.1 j (qS1.1 hx).1
 unfold badX at this
 rw[hx]at this
 simp only[Bool.or_eq_false_iff,Bool.not_eq_false',List.any_eq_true,beq_iff_eq]at this
 obtain⟨_,_,y,hy,e⟩:=this
 rw[←e];exact hy
theorem Picture_both (hs:SG F s) (name:ByteArray) (W H back:Int):∃v b,pI_Picture (F+70) s name W H back=some (v,b)∧pS_Picture (F+70) s name W H back=some (v,b)∧v.Grid.Cells.length≤4000:=by
 have hfu:=hs.f.f.fu
 have hsl:=hs.f.f.sl
 have hwl:=hs.f.f.wl
 unfold pI_Picture pS_Picture
 obtain⟨g0,hg0⟩:=pS_GridNew_eq (fuel:=F+70) W H (by omega)
 rw[pI_SessAt_eq (by omega) (by omega),pS_SessAt_eq (by omega) (by omega),pI_StateOk_eq hs,pS_StateOk_eq hs]
 simp only[bd_s]
 have zero:∀b:Bool,b=true→∃v b',(some (IView.mk (IGrid.mk 0 0 []) 0 0 false,false):Option (IView×Bool))=some (v,b')∧(some (IView.mk (IGrid.mk 0 0 []) 0 0 false,false):Option (IView×Bool))=some (v,b')∧v.Grid.Cells.length≤4000:=fun _ _=>⟨_,_,rfl,rfl,by simp⟩
 cases hb:stateB s with
 | false=>
  rw[hg0]
  simp only[Bool.not_false,br_t,bd_s]
  exact zero true rfl
 | true=>
  simp only[Bool.not_true,br_f,bd_s]
  cases hf:s.Sess.findIdx? (fun y=>decide (y.Name=name))with
  | none=>
   rw[atV_none hf,hg0]
   simp only[bd_s]
   rw[show decide ((-1:Int)<0)=true by rfl,br_t,br_t]
   simp only[bd_s,br_t]
   exact zero true rfl
  | some j=>
   rw[atV_some hf]
   simp only[qF1 (show¬((j:Nat):Int)<0 by omega),br_f,pI_isSize_eq,bd_s]
   cases hz:isSizeB W H with
   | false=>
    rw[hg0,hz]
    simp only[bd_s,Bool.not_false,br_t]
    exact zero true rfl
   | true=>
    obtain⟨z1,z2,z3,z4,z5⟩:=isSizeB_true.1 hz
    obtain⟨m,rfl⟩:∃m:Nat,W=m:=⟨W.toNat,by omega⟩
    obtain⟨n,rfl⟩:∃n:Nat,H=n:=⟨H.toNat,by omega⟩
    have mn:m*n≤4000:=by rw[←Int.natCast_mul]at z5;omega
    obtain⟨x,hx,hnm,hfd⟩:=sess_find hf
    have hj:=(qS1.1 hx).1
    have hB:=stB_of hb
    have h:=stW_of hb
    have hact:=sess_act hb hx
    obtain⟨k,hk⟩:∃k,s.Wins.findIdx? (fun y=>y.Id==x.Active)=some k:=by
     cases hc:s.Wins.findIdx? (fun y=>y.Id==x.Active)with
     | some k=>exact⟨k,rfl⟩
     | none=>
      obtain⟨w,hw,e⟩:=List.mem_map.1 hact
      have:=List.findIdx?_eq_none_iff.1 hc w hw
      simp[e]at this
    obtain⟨w,gw,hw,w1,w2,w3⟩:=Window_at hs hb x.Active back hk
    obtain⟨w',hw',hq⟩:=findIdx_get hk
    rw[hw]at hw'
    cases hw'
    have hwid:w.Id=x.Active:=by simpa using hq
    have hkl:=(qS1.1 hw).1
    have hG:gridOkB (IGrid.mk (m:Int) (n:Int) (List.replicate (m*n) blankV))=true:=blank_grid rfl rfl hz
    have p0:plc 0:=by unfold plc;omega
    have hg1:gridOkB (pasteV (IGrid.mk (m:Int) (n:Int) (List.replicate (m*n) blankV)) gw 0 0)=true:=pasteV_ok hG w3 0 0
    have eI:=pI_paste_eq (F:=F+70) (by omega) hG w3 p0 p0
    have eS:=pS_GridPaste_eq (F:=F+70) (by omega) hG w3 p0 p0
    have eW:(pasteV (IGrid.mk (m:Int) (n:Int) (List.replicate (m*n) blankV)) gw 0 0).W=m:=rfl
    have eH:(pasteV (IGrid.mk (m:Int) (n:Int) (List.replicate (m*n) blankV)) gw 0 0).H=n:=rfl
    obtain⟨st1,st2⟩:=status_I hs hB hx
    have hst:statusV s name=x.Wins.foldl (stepT s x.Active) (ByteArray.mk #[91]++x.Name++ByteArray.mk #[93]):=by
     unfold statusV
     rw[if_pos hb,hfd,hnm]
    have hstS:=pS_Status_eq hs (n:=name)
    rw[hst]at hstS
    have hpa:w.Active∈s.Panes.map (·.Id):=h.prm.mem_iff.1 (by
     unfold lvw
     have:=(h.win k w hw).2.2.2.2.2
     exact List.mem_flatMap.2 ⟨w,qM1 hw,by simpa using this⟩)
    obtain⟨jp,p,t1,_,t3,t4,t5,_,_⟩:=term_look hs h hpa w.Active back back (by rw[if_pos rfl])
    obtain⟨x1,x2,y1,y2⟩:=scr_xy (h.pan p (qM1 t5))
    obtain⟨s1,s2,s3,s4,_⟩:=isSizeB_true.1 h.z
    obtain⟨r1,r2,r3,r4⟩:=place_in w.Tree (w:=s.W) (h:=s.H) ⟨s1,s2⟩ ⟨s3,s4⟩ w.Active
    obtain⟨_,_,_,h31,_⟩:=win_tree h hw
    have gI:=gridOf_eq (F:=F+70) (by omega) (m:=m) (n:=n) (by omega) (by omega) mn
    have gS:=gridNew_val (F:=F+70) (by omega) (m:=m) (n:=n) (by omega) (by omega) (by omega) (by omega) mn
    have hrep:=repeat_eq (F:=F+70) (by omega) (x:=turnC 32) (n:=m) (by omega) (by omega)
    obtain⟨f1,f2,f3⟩:=row_facts (r:=n-1) (n:=n) (m:=m) (by omega) mn
    have e3:(n:Int)-1=((n-1:Nat):Int):=by omega
    have hlen:=grid_len hg1
    have hcl:(pasteV (IGrid.mk (m:Int) (n:Int) (List.replicate (m*n) blankV)) gw 0 0).Cells.length=m*n:=by simp[pasteV]
    generalize pasteV (IGrid.mk (m:Int) (n:Int) (List.replicate (m*n) blankV)) gw 0 0=g at *
    generalize x.Wins.foldl (stepT s x.Active) (ByteArray.mk #[91]++x.Name++ByteArray.mk #[93])=T at *
    obtain⟨r,hr,hrI⟩:∃r:IRect,(r=if w.Zoom=true then IRect.mk 0 0 0 0 0 else(placeOfV w.Tree s.W s.H w.Active).1)∧(0≤r.X∧r.X≤1000∧0≤r.Y∧r.Y≤1000):=⟨_,rfl,by split<;>(try dsimp only)<;>omega⟩
    have hcur:pI_State_cursor (F+70) s w=some (r.X+p.Term.S.X,r.Y+p.Term.S.Y):=by
     unfold pI_State_cursor
     rw[t1,bd_s]
     dsimp only
     rw[pI_PlaceOf_eq (by omega) (by omega)]
     cases hzm:w.Zoom with
     | true=>
      rw[hzm]at hr
      simp only[if_true]at hr
      simp only[Bool.not_true,br_f,bd_s,t5]
      rw[hr]at hrI⊢
      dsimp only at hrI⊢
      rw[gd_t (inK64 (by omega) (by omega)),gd_t (inK64 (by omega) (by omega))]
     | false=>
      rw[hzm]at hr
      simp only[if_false,Bool.false_eq_true]at hr
      simp only[Bool.not_false,br_t,bd_s,t5]
      rw[hr]at hrI⊢
      rw[gd_t (inK64 (by omega) (by omega)),gd_t (inK64 (by omega) (by omega))]
    refine⟨viewV (barV g ((n-1)*m) T) m n p.Term.S.Hide back (r.X+p.Term.S.X) (r.Y+p.Term.S.Y),true,?_,?_,?_⟩
    ·simp only[Bool.not_true,br_f]
     rw[gd_t (by omega),Int.toNat_natCast,hx,bd_s,pI_WinAt_eq (by omega) (by omega),atV_some hk,bd_s,gd_t (by omega),Int.toNat_natCast,hw,bd_s,gI,bd_s,w1,bd_s,eI,bd_s,eW,e3,f1,f2,hcl]
     rw[gd_t (inK64 (by omega) (by omega)),gd_t (inK64 (by omega) (by omega)),gd_t (inK64 (by omega) (by omega)),gd_t (inK64 (by omega) (by omega)),gd_t (by omega),Int.toNat_natCast,Int.toNat_natCast,gd_t (by omega)]
     rw[show pG_slices_Repeat_ICell (F+70) [ICell.mk 32 (IAttr.mk 0 0 false false true)] (m:Int)=some (List.replicate m (turnC 32))from hrep,bd_s,st1,bd_s,Nat.zero_add,show(n-1)*m+m-(n-1)*m=m by omega,List.take_of_length_le (by simp)]
     have hbar:=bar_I (F:=F+70) (by omega) eW eH hg1 st2 (s:=s) (IView.mk (IGrid.mk 0 0 []) 0 0 false) w back
     rw[eW]at hbar
     rw[hbar,bd_s]
     dsimp only
     rw[hcur,bd_s]
     dsimp only
     rw[t1,bd_s]
     dsimp only
     rw[t5,bd_s]
     unfold viewV
     by_cases c1:0<back
     ·rw[qT1 c1];rfl
     ·rw[qF1 c1,br_f]
      cases p.Term.S.Hide with
      | true=>rfl
      | false=>
       rw[br_f,gd_t (inK64 (by omega) (by omega))]
       by_cases c2:(n:Int)-1≤r.Y+p.Term.S.Y
       ·rw[qT1 c2];rfl
       ·rw[qF1 c2,br_f,bd_s]
        by_cases c3:(m:Int)≤r.X+p.Term.S.X
        ·rw[qT1 c3];rfl
        ·rw[qF1 c3];rfl
    ·rw[gS]
     simp only[bd_s,Bool.not_true,br_f]
     rw[gd_t (by omega),Int.toNat_natCast,hx,bd_s,pS_WinAt_eq (by omega) (by omega),atV_some hk,bd_s,gd_t (by omega),Int.toNat_natCast,hw,bd_s,hwid,w2,bd_s,eS,bd_s,hstS,bd_s,bar_S (by omega) eW eH hg1,bd_s]
     dsimp only
     rw[t3,bd_s,gd_t (by omega),Int.toNat_natCast,t5,bd_s,pS_PlaceOf_eq (by omega) (by omega),bd_s]
     have hsel:br w.Zoom (some (IView.mk (IGrid.mk 0 0 []) 0 0 false,IView.mk (barV g ((n-1)*m) T) 0 0 true,p.Term.S,IRect.mk 0 0 0 0 0,(m:Int),(n:Int),back)) (some (IView.mk (IGrid.mk 0 0 []) 0 0 false,IView.mk (barV g ((n-1)*m) T) 0 0 true,p.Term.S,(placeOfV w.Tree s.W s.H w.Active).1,(m:Int),(n:Int),back))=some (IView.mk (IGrid.mk 0 0 []) 0 0 false,IView.mk (barV g ((n-1)*m) T) 0 0 true,p.Term.S,r,(m:Int),(n:Int),back):=by
      rw[hr]
      cases w.Zoom<;>rfl
     rw[hsel,bd_s]
     dsimp only
     rw[gd_t (inK64 (by omega) (by omega)),gd_t (inK64 (by omega) (by omega))]
     unfold viewV
     by_cases c1:0<back
     ·rw[qT1 c1,qF1 (show¬back≤0 by omega)];rfl
     ·rw[qF1 c1,qT1 (show back≤0 by omega),br_t]
      cases p.Term.S.Hide with
      | true=>rfl
      | false=>
       rw[show(!false)=true from rfl,br_t]
       by_cases c3:(m:Int)≤r.X+p.Term.S.X
       ·rw[qT1 c3,qF1 (show¬r.X+p.Term.S.X<(m:Int) by omega)]
        simp
       ·rw[qF1 c3,qT1 (show r.X+p.Term.S.X<(m:Int) by omega),br_t,gd_t (inK64 (by omega) (by omega))]
        by_cases c2:(n:Int)-1≤r.Y+p.Term.S.Y
        ·rw[qT1 c2,qF1 (show¬r.Y+p.Term.S.Y<(n:Int)-1 by omega)];rfl
        ·rw[qF1 c2,qT1 (show r.Y+p.Term.S.Y<(n:Int)-1 by omega)];rfl
    ·unfold viewV barV
     split<;>simp<;>omega
end
theorem set_take {α β:Type} {l:List α} {g:α→β} {o:List β} {i:Nat} {x:α} (hx:l[i]?=some x) (ho:o.length=l.length):((l.take i).map g++o.drop i).set i (g x)=(l.take (i+1)).map g++o.drop (i+1):=by
 have hi:=(qS1.1 hx).1
 have e:l.take (i+1)=l.take i++ [x]:=by rw[List.take_add_one,hx];rfl
 have ed:o.drop i=o[i]'(by omega)::o.drop (i+1):=by rw[List.drop_eq_getElem_cons (by omega)]
 have hl:((l.take i).map g).length=i:=by rw[List.length_map,List.length_take];omega
 rw[e,ed,List.set_append_right _ _ (by omega),hl,Nat.sub_self,List.set_cons_zero,List.map_append,List.append_assoc]
 rfl
theorem loopF_set {α β O:Type} {B:List α×List β×Int→Option ((List α×List β×Int)⊕O)} (l:List α) (g:α→β) (out:List β→O) {o:List β} {fuel:Nat} (ho:o.length=l.length)
  (hB:∀(i:Nat) x (o:List β),l[i]?=some x→o.length=l.length→B (l,o,(i:Int))=some (.inl (l,o.set i (g x),((i+1:Nat):Int)))) (hE:∀o,B (l,o,(l.length:Int))=some (.inr (out o))) (hf:l.length<fuel):loopF B fuel (l,o,0)=some (out (l.map g)):=by
 have key:∀(n i fuel:Nat),l.length-i=n→i≤l.length→n<fuel→loopF B fuel (l,(l.take i).map g++o.drop i,(i:Int))=some (out (l.map g)):=by
  intro n
  induction n with
  | zero=>
   intro i fuel hn hi hf
   obtain rfl:i=l.length:=by omega
   cases fuel with
   | zero=>omega
   | succ fuel=>rw[loopF,hE,List.take_length,List.drop_eq_nil_of_le (by omega),List.append_nil]
  | succ n ih=>
   intro i fuel hn hi hf
   have hil:i<l.length:=by omega
   cases fuel with
   | zero=>omega
   | succ fuel=>
    rw[loopF,hB i l[i] _ (qE1 hil) (by simp;omega),set_take (qE1 hil) ho]
    exact ih (i+1) fuel (by omega) (by omega) (by omega)
 have:=key l.length 0 fuel (by omega) (by omega) hf
 simpa using this
theorem loopF_walk {V O:Type} {B:V→Option (V⊕O)} (f:Nat→V) (n:Nat) (E:O) {fuel:Nat} {v:V} (hv:v=f 0) (h:∀i,i<n→B (f i)=some (.inl (f (i+1)))) (he:B (f n)=some (.inr E)) (hf:n<fuel):loopF B fuel v=some E:=by
 subst hv
 have key:∀(m i fuel:Nat),n-i=m→i≤n→m<fuel→loopF B fuel (f i)=some E:=by
  intro m
  induction m with
  | zero=>
   intro i fuel hm hi hf
   obtain rfl:i=n:=by omega
   cases fuel with
   | zero=>omega
   | succ fuel=>rw[loopF,he]
  | succ m ih=>
   intro i fuel hm hi hf
   cases fuel with
   | zero=>omega
   | succ fuel=>
    rw[loopF,h i (by omega)]
    exact ih (i+1) fuel (by omega) (by omega) (by omega)
 exact key n 0 fuel (by omega) (by omega) hf
theorem loopF_mark {α O:Type} {B:List α×Int×Int→Option ((List α×Int×Int)⊕O)} (l:List α) (C:Int) (hC:0≤C) (M:Int→α→Int→α→Prop) (out:Int→List α→O) {k:Int} {fuel:Nat} (hk:0≤k) (hk2:k+C*(l.length:Int)≤9000000000000000000)
  (hB:∀(i:Nat) x (l':List α) (k:Int),l'[i]?=some x→l[i]?=some x→l'.length=l.length→0≤k→k+C≤9000000000000000000→∃k' x',B (l',k,(i:Int))=some (.inl (l'.set i x',k',((i+1:Nat):Int)))∧M k x k' x'∧k≤k'∧k'≤k+C) (hE:∀(l':List α) k,l'.length=l.length→B (l',k,(l.length:Int))=some (.inr (out k l'))) (hf:l.length<fuel) :
  ∃(k':Int) (l':List α) (ks:Nat→Int),loopF B fuel (l,k,0)=some (out k' l')∧k≤k'∧k'≤k+C*(l.length:Int)∧l'.length=l.length∧ks 0=k∧ks l.length=k'∧(∀(i:Nat),i<l.length→0≤ks i∧ks i≤k+C*(i:Int))∧∀(i:Nat) x,l[i]?=some x→∃x',l'[i]?=some x'∧M (ks i) x (ks (i+1)) x':=by
 have key:∀(n i fuel:Nat) (l1:List α) (k1:Int) (ks:Nat→Int),l.length-i=n→i≤l.length→n<fuel→l1.length=l.length→(∀j,i≤j→l1[j]?=l[j]?)→ks i=k1→ks 0=k→k≤k1→k1≤k+C*(i:Int)→(∀j,j<i→0≤ks j∧ks j≤k+C*(j:Int))→(∀(j:Nat) x,j<i→l[j]?=some x→∃x',l1[j]?=some x'∧M (ks j) x (ks (j+1)) x')→
   ∃(k':Int) (l':List α) (ks:Nat→Int),loopF B fuel (l1,k1,(i:Int))=some (out k' l')∧k≤k'∧k'≤k+C*(l.length:Int)∧l'.length=l.length∧ks 0=k∧ks l.length=k'∧(∀(i:Nat),i<l.length→0≤ks i∧ks i≤k+C*(i:Int))∧∀(i:Nat) x,l[i]?=some x→∃x',l'[i]?=some x'∧M (ks i) x (ks (i+1)) x':=by
  intro n
  induction n with
  | zero=>
   intro i fuel l1 k1 ks hn hi hf hl1 hsame hki hk0 h1 h2 hks hM
   obtain rfl:i=l.length:=by omega
   cases fuel with
   | zero=>omega
   | succ fuel=>
    exact⟨k1,l1,ks,by rw[loopF,hE l1 k1 hl1],h1,h2,hl1,hk0,hki,hks,fun j x hx=>hM j x (qS1.1 hx).1 hx⟩
  | succ n ih=>
   intro i fuel l1 k1 ks hn hi hf hl1 hsame hki hk0 h1 h2 hks hM
   have hil:i<l.length:=by omega
   have hCi:C*(i:Int)+C≤C*(l.length:Int):=by
    have:C*((i:Int)+1)≤C*(l.length:Int):=Int.mul_le_mul_of_nonneg_left (by omega) hC
    rw[Int.mul_add,Int.mul_one]at this
    exact this
   cases fuel with
   | zero=>omega
   | succ fuel=>
    obtain⟨k2,x2,hb,hm,hk1,hk2'⟩:=hB i l[i] l1 k1 (by rw[hsame i (Nat.le_refl _)];exact qE1 hil) (qE1 hil) hl1 (by omega) (by omega)
    rw[loopF,hb]
    have e1:C*((i+1:Nat):Int)=C*(i:Int)+C:=by rw[show((i+1:Nat):Int)=(i:Int)+1 by omega,Int.mul_add,Int.mul_one]
    refine ih (i+1) fuel (l1.set i x2) k2 (fun j=>if j=i+1 then k2 else ks j) (by omega) (by omega) (by omega) (by simp[hl1]) (fun j hj=>by rw[List.getElem?_set_ne (by omega)];exact hsame j (by omega)) (by simp) (by simp[hk0]) (by omega) (by rw[e1];omega) (fun j hj=> ?_) (fun j x hj hx=> ?_)
    ·have hne:j≠i+1:=by omega
     simp only[hne,if_false]
     by_cases hji:j=i
     ·subst hji;rw[hki];exact⟨by omega,h2⟩
     ·exact hks j (by omega)
    ·by_cases hji:j=i
     ·subst hji
      refine⟨x2,by rw[List.getElem?_set_self (by omega)],?_⟩
      have hx':x=l[j]:=by rw[qE1 hil]at hx;cases hx;rfl
      subst hx'
      simp only[show j≠j+1 by omega,if_false,if_true,hki]
      exact hm
     ·obtain⟨x',q1,q2⟩:=hM j x (by omega) hx
      refine⟨x',by rw[List.getElem?_set_ne (by omega)];exact q1,?_⟩
      have h3:j≠i+1:=by omega
      have h4:j+1≠i+1:=by omega
      simp only[h3,h4,if_false]
      exact q2
 have:=key l.length 0 fuel l k (fun _=>k) (by omega) (by omega) hf rfl (fun _ _=>rfl) rfl rfl (by omega) (by simp) (fun j hj=>by omega) (fun j x hj=>by omega)
 simpa using this
theorem loopF_sz {α:Type} {B:List α×Int×Int→Option ((List α×Int×Int)⊕(Int⊕Int))} (l:List α) (P:α→Prop) {left:Int} {fuel:Nat} (h0:0≤left) (h1:left≤1048576)
  (hB:∀(i:Nat) x k,l[i]?=some x→0≤k→k≤1048576→∃r,B (l,k,(i:Int))=(if r<0 then some (.inr (.inr (-1)))else some (.inl (l,r,((i+1:Nat):Int))))∧r≤k∧(0≤r→P x)) (hE:∀k,B (l,k,(l.length:Int))=some (.inr (.inl k))) (hf:l.length<fuel) :
  loopF B fuel (l,left,0)=some (.inr (-1))∨∃r,loopF B fuel (l,left,0)=some (.inl r)∧0≤r∧r≤left∧∀x∈l,P x:=by
 have key:∀(n i fuel:Nat) (k:Int),l.length-i=n→i≤l.length→n<fuel→0≤k→k≤left→(∀(j:Nat) x,j<i→l[j]?=some x→P x)→loopF B fuel (l,k,(i:Int))=some (.inr (-1))∨∃r,loopF B fuel (l,k,(i:Int))=some (.inl r)∧0≤r∧r≤left∧∀x∈l,P x:=by
  intro n
  induction n with
  | zero=>
   intro i fuel k hn hi hf hk0 hk1 hP
   obtain rfl:i=l.length:=by omega
   cases fuel with
   | zero=>omega
   | succ fuel=>
    refine .inr ⟨k,by rw[loopF,hE],hk0,hk1,fun x hx=> ?_⟩
    obtain⟨j,hj⟩:=List.getElem?_of_mem hx
    exact hP j x (qS1.1 hj).1 hj
  | succ n ih=>
   intro i fuel k hn hi hf hk0 hk1 hP
   have hil:i<l.length:=by omega
   cases fuel with
   | zero=>omega
   | succ fuel=>
    obtain⟨r,hb,hr,hp⟩:=hB i l[i] k (qE1 hil) hk0 (by omega)
    rw[loopF,hb]
    by_cases hr0:r<0
    ·rw[if_pos hr0];exact .inl rfl
    ·rw[if_neg hr0]
     refine ih (i+1) fuel r (by omega) (by omega) (by omega) (by omega) (by omega) fun j x hj hx=> ?_
     by_cases hji:j=i
     ·subst hji
      rw[qE1 hil]at hx;cases hx
      exact hp (by omega)
     ·exact hP j x (by omega) hx
 exact key l.length 0 fuel left (by omega) (by omega) hf h0 (by omega) fun j x hj=>by omega
end Go.Px

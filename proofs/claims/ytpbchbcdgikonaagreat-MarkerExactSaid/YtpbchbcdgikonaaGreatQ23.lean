/- Lean texts of the claim. -/
import Derived.Test.YtpbchbcdgikonaaGreatQ22
namespace Go.Proofs.YtpbchbcdgikonaaGreat
set_option linter.unusedVariables false
set_option linter.unusedSimpArgs false
set_option maxRecDepth 100000
set_option maxHeartbeats 4000000
open Go.RowKit
section
open Go.RowKit Limb
theorem bk (x:Int) (w:World):Calls Tryz.prog 236 #[.int .u32 x] w fun e w'=>e=.returned (.bool false)/\w=w':=by
 go_enter Tryz.func236,Tryz.ntmps236;go_wp2;go_ret;exact⟨Bn (by simp),rfl⟩
theorem T9 (x y:Int) (w:World):Calls Tryz.prog 207 #[.int .u32 x,.int .u32 y] w fun e w'=>e=.returned (.int .i64 (Er x y))/\Below w.heap.size w w':=by
 go_enter Tryz.func207,Tryz.ntmps207
 go_wp2_with (go_at_call 236;refine(bk _ _).mono ?_;rintro e w' ⟨rfl,rfl⟩)
 all_goals go_ret
 all_goals exact⟨Bh (by unfold Er;(repeat split)<;>omega),Below.refl _ _⟩
theorem Ja (A B:Option Addr) (ca cb na nb a b:Nat) (w:World) (ha:(lmb a).length=na) (hb:(lmb b).length=nb) (hna:na<=1000000) (hnb:nb<=1000000) (hca:na<=ca) (hcb:nb<=cb) (hA:G3 w A na (lmb a)) (hB:G3 w B nb (lmb b)) :
 Calls Tryz.prog 171 #[.slice A na ca,.slice B nb cb] w fun e w'=>e=.returned (.int .i64 (Ld a b))/\Below w.heap.size w w':=by
 have ta:trl (lmb a) na=na:=by rw[<-ha];exact Ex a
 have tb:trl (lmb b) nb=nb:=by rw[<-hb];exact Ex b
 have HC:=Lib.hid (Aet (a:=a) (b:=b));rw[ha,hb] at HC;have HTA:=Lib.hid ta;have HTB:=Lib.hid tb;clear ta tb ha hb;go_enter Tryz.func171,Tryz.ntmps171
 go_upto_region 3 with (first
  | (go_at_call 81;refine(J8 _ _ _).mono ?_;rintro e w3 ⟨rfl,hb3⟩)
  | (go_at_call 172;refine(Bv B cb nb (lmb b) _ (by omega) hcb (hB.keep hb1)).mono ?_;rintro e w2 ⟨rfl,hb2⟩;rw[HTB.out])
  | (go_at_call 172;refine(Bv A ca na (lmb a) _ (by omega) hca hA).mono ?_;rintro e w1 ⟨rfl,hb1⟩;rw[HTA.out]))
 have hb12:=Ao (Ao hb1 hb2) hb3;have hA2:=hA.keep hb12;have hB2:=hB.keep hb12;clear hb1 hb2 hb3 hA2 hB2;by_cases c1:na<nb
 ·have hx:Er (na:Int) (nb:Int) = -1:=by unfold Er;rw[if_pos (by omega)]
  have HR:=Lib.hid (show Ld a b = -1 by rw[HC.out,if_pos c1])
  rw[hx];clear hx;go_wp2_with fail;go_ret;exact⟨by rw[HR.out];rfl,hb12⟩
 ·by_cases c2:nb<na
  ·have hx:Er (na:Int) (nb:Int)=1:=by unfold Er;rw[if_neg (by omega),if_pos (by omega)]
   have HR:=Lib.hid (show Ld a b=1 by rw[HC.out,if_neg c1,if_pos c2])
   rw[hx];clear hx;go_wp2_with fail;go_ret;exact⟨by rw[HR.out];rfl,hb12⟩
  ·obtain rfl:na=nb:=by omega
   have hx:Er (na:Int) (na:Int)=0:=by unfold Er;rw[if_neg (by omega),if_neg (by omega)]
   have HR:=Lib.hid (show Ld a b=qd (lmb a) (lmb b) na by rw[HC.out,if_neg c1,if_neg c2])
   rw[hx];clear hx c1 c2;go_wp2_with fail;go_loopw [6,7] (fun i _ wr=>∃(k:Nat) (z:Int),k<=na/\z=(k:Int)-1/\i=.int .i64 z/\Hid (Ld a b=qd (lmb a) (lmb b) k)/\Below w.heap.size w wr) (fun i _ _=>(intOf i+1).toNat)
   case atStart=>exact⟨na,_,Nat.le_refl _,rfl,rfl,HR,hb12⟩
   case round =>
    obtain⟨k,z,hk,hz,rfl,ht,hbr⟩:=hrel;cases k with
    | zero =>
      have HT:=Lib.hid (show Ld a b=0 by rw[ht.out];rfl)
      obtain rfl:z = -1:=by omega
      clear hz;go_wp2_with fail;go_ret;exact⟨by rw[HT.out];rfl,hbr⟩
    | succ k =>
      obtain rfl:z=(k:Int):=by omega
      clear hz;obtain⟨b1,o1,rfl,h1⟩:=(hA.keep hbr).at_ (show k<na by omega)
      obtain⟨b2,o2,rfl,h2⟩:=(hB.keep hbr).at_ (show k<na by omega)
      have HT0:=Lib.hid (show qd (lmb a) (lmb b) (k+1)=if gu (lmb a) k<gu (lmb b) k then -1 else if gu (lmb b) k<gu (lmb a) k then 1 else qd (lmb a) (lmb b) k from rfl)
      obtain⟨p,hp⟩:∃p:Int,((gu (lmb a) k:Nat):Int)=p:=⟨_,rfl⟩
      obtain⟨q,hq⟩:∃q:Int,((gu (lmb b) k:Nat):Int)=q:=⟨_,rfl⟩
      rw[hp] at h1;rw[hq] at h2;have z1:(0:Int)<=(k:Int):=by omega
      have z2:(k:Int)<(na:Int):=by omega
      have HP:Hid (Ld a b=if p<q then -1 else if q<p then 1 else qd (lmb a) (lmb b) k):=Lib.hid (by
       rw[ht.out,HT0.out]
       (repeat' split)<;>first|rfl|omega)
      clear hp hq ht HT0;go_wp2_with fail;refine Bi wr [(⟨b1,o1+k,none⟩,.int .u32 p),(⟨b2,o2+k,none⟩,.int .u32 q)] (by kernel_rfl) (by kernel_rfl) ⟨Below.refl _ _,by simp only[List.mem_cons,List.not_mem_nil,forall_eq_or_imp,or_false,forall_eq];go_simp⟩ ?_
      repeat
       apply Cv
       ·rfl
       ·intro w1 hw1
        have hx:=hw1.2;simp only[List.mem_cons,List.not_mem_nil,forall_eq_or_imp,or_false,forall_eq] at hx
        go_simp
        first|rfl|exact Cg hw1 (T9 _ _ _)
       go_simp
      refine wpQuiet_nil ?_;intro w8 hCw8;have hb8:=Ao hbr hCw8.1;by_cases c1:p<q
      ·have hx:Er p q = -1:=by unfold Er;rw[if_pos c1]
       have HR:=Lib.hid (show Ld a b = -1 by rw[HP.out,if_pos c1])
       rw[hx];clear hx;go_wp2_with fail;go_ret;exact⟨by rw[HR.out];rfl,hb8⟩
      ·by_cases c2:q<p
       ·have hx:Er p q=1:=by unfold Er;rw[if_neg c1,if_pos (by omega)]
        have HR:=Lib.hid (show Ld a b=1 by rw[HP.out,if_neg c1,if_pos c2])
        rw[hx];clear hx;go_wp2_with fail;go_ret;exact⟨by rw[HR.out];rfl,hb8⟩
       ·have hx:Er p q=0:=by unfold Er;rw[if_neg c1,if_neg (by omega)]
        have HR:=Lib.hid (show Ld a b=qd (lmb a) (lmb b) k by rw[HP.out,if_neg c1,if_neg c2])
        rw[hx];clear hx HP;go_wp2_with fail;exact⟨⟨k,(k:Int)-1,by omega,rfl,by go_num,HR,hb8⟩,by simp[intOf]⟩
end
section
open Go.RowKit Limb
theorem Q4 (w:World) (base:Nat):Cq w base (.slice none 0 0) 0:=by
 refine⟨none,0,by rw[Cs];rfl,by rw[Cs];exact Nat.le_refl _,Nat.zero_le _,?_,fun _=>rfl,fun p hp=>by cases hp⟩
 rw[Cs];exact⟨rfl,.inl rfl⟩
theorem gh {x y o:Nat} (hx:x<BB) (hy:y<BB) (ho:o<=1):∃(p q:Int) (lo hi:Nat),IntKind.u64.wrap ((x:Int)-(o:Int))=p/\IntKind.u64.wrap (p-(y:Int))=q/\q % 4294967296=(lo:Int)/\q / 9223372036854775808=(hi:Int)/\lo<BB/\hi<=1/\lo+y+o=x+BB*hi/\(y=0->q=p):=by
 unfold BB at *
 rw[IntKind.wrap_u64];refine⟨_,_,((((x:Int)-(o:Int)) % 18446744073709551616-(y:Int)) % 18446744073709551616 % 4294967296).toNat,((((x:Int)-(o:Int)) % 18446744073709551616-(y:Int)) % 18446744073709551616 / 9223372036854775808).toNat,rfl,IntKind.wrap_u64 _,?_,?_,?_,?_,?_,?_⟩<;>omega
theorem xt (A B:Option Addr) (ca cb na nb a b:Nat) (w:World) (ha:(lmb a).length=na) (hb:(lmb b).length=nb) (hna:na<=100000) (hnb:nb<=100000) (hca:na<=ca) (hcb:nb<=cb) (hA:G3 w A na (lmb a)) (hB:G3 w B nb (lmb b)) :
 Calls Tryz.prog 215 #[.slice A na ca,.slice B nb cb] w fun e w'=>∃v,e=.returned (.tuple #[v,.bool (decide (b<=a))])/\Cq w' w.heap.size v (a-b)/\Below w.heap.size w w':=by
 have ta:trl (lmb a) na=na:=by rw[<-ha];exact Ex a
 have tb:trl (lmb b) nb=nb:=by rw[<-hb];exact Ex b
 have HTA:=Lib.hid ta;have HTB:=Lib.hid tb;have HLA:=Lib.hid ha;have HLB:=Lib.hid hb;clear ta tb ha hb;obtain⟨Z,hmk,hZ⟩:=Gc na (by omega)
 go_enter Tryz.func215,Tryz.ntmps215
 go_upto_region 2 with (first
  | (go_at_call 172;refine(Bv B cb nb (lmb b) _ (by omega) hcb (hB.keep hb1)).mono ?_;rintro e w2 ⟨rfl,hb2⟩;rw[HTB.out])
  | (go_at_call 172;refine(Bv A ca na (lmb a) _ (by omega) hca hA).mono ?_;rintro e w1 ⟨rfl,hb1⟩;rw[HTA.out]))
 have hb2':=Ao hb1 hb2;clear hb1 hb2;by_cases hle:b<=a
 ·obtain⟨c,hc,HC⟩:∃c,0<=c/\Hid (Ld a b=c):=⟨_,by unfold Ld;rw[if_neg (by omega)];split<;>omega,Lib.hid rfl⟩
  have HD:Hid (decide (b<=a)=true):=Lib.hid (by simpa using hle)
  have HN:Hid (nb<=na):=Lib.hid (by rw[<-HLA.out,<-HLB.out];exact Pu hle)
  have HLE:=Lib.hid hle;clear hle
  go_upto_region 7 with (go_at_call 171;refine(Ja A B ca cb na nb a b _ HLA.out HLB.out (by omega) (by omega) hca hcb (hA.keep hb2') (hB.keep hb2')).mono ?_;rintro e w3 ⟨rfl,hb3⟩;rw[HC.out])
  have hb12:=Ao hb2' hb3;go_loopw [7,8,9,10,24] (fun o _ _ _ i wr=>∃(k b0:Nat) (l:List Nat),k<=na/\i=.int .i64 k/\o=.int .u64 (b0:Int)/\Hid (SubI a b k b0 na l)/\Mb wr w3.heap.size l/\Below w3.heap.size w3 wr) (fun _ _ _ _ i _=>na-(intOf i).toNat)
  case atStart=>exact⟨0,0,_,Nat.zero_le _,rfl,rfl,Lib.hid (SubI.zero a b na),hZ w3,An (Below.refl _ _) _⟩
  case round =>
   clear hmk hZ;obtain⟨k,b0,l,hk,rfl,rfl,HI,hor,hbr⟩:=hrel;have hbw:=Ao hb12 hbr;have hb0:=HI.out.ole;have hll:=HI.out.len;have hgl:=hor.lt;by_cases hlt:k<na
   ·obtain⟨b1,o1,rfl,h1⟩:=(hA.keep hbw).at_ hlt
    obtain⟨c1,f1⟩:=hor.cell (k:=k) (by omega)
    obtain⟨p,q,lo,hi,P1,P2,P3,P4,P5,P6,P7,P8⟩:=gh (Dh a k) (Dh b k) hb0;have HX:=Dh a k;have HY:=Dh b k;have HI2:=Lib.hid (HI.out.step hlt P5 P6 P7);obtain⟨x,hx⟩:∃x,lim a k=x:=⟨_,rfl⟩
    have hx':gu (lmb a) k=x:=hx;rw[hx'] at h1;rw[hx] at HX P1;unfold BB at HX;have W1:=Eb (z:=(x:Int)) (by omega) (by omega)
    obtain⟨y,hy⟩:∃y,lim b k=y:=⟨_,rfl⟩
    have hy':gu (lmb b) k=y:=hy;rw[hy] at HY P2 P8;unfold BB at HY;have W3:=Eb (z:=(y:Int)) (by omega) (by omega)
    by_cases hkb:k<nb
    ·obtain⟨b2,o2,rfl,h2⟩:=(hB.keep hbw).at_ hkb
     rw[hy'] at h2;clear hx hx' hy hy' P5 P6 P7 P8 HX HY hll;go_wp2_with fail;exact⟨⟨k+1,hi,l.set k lo,by omega,by go_num,rfl,HI2,hor.store k lo,Bc hbr (p:=⟨w3.heap.size,k,none⟩) (Nat.le_refl _) _⟩,by simp[intOf];omega⟩
    ·have hq:q=p:=P8 (by rw[<-hy];exact Vi (by rw[HLB.out];omega))
     rw[hq] at P3 P4;clear hx hx' hy hy' P2 P5 P6 P7 P8 HX HY hll hq;go_wp2_with fail;exact⟨⟨k+1,hi,l.set k lo,by omega,by go_num,rfl,HI2,hor.store k lo,Bc hbr (p:=⟨w3.heap.size,k,none⟩) (Nat.le_refl _) _⟩,by simp[intOf];omega⟩
   ·obtain rfl:k=na:=by omega
    have HF:=Lib.hid (HI.out.fin (Nat.le_of_eq HLA.out) (by rw[HLB.out];exact HN.out) HLE.out)
    have HLT:=Lib.hid HI.out.lt;have hU:=hor.u32s;rw[hll] at hU;clear HI
    go_wp2_with (go_at_call 172;refine(Bv _ k k l _ (by omega) (Nat.le_refl _) hU).mono ?_;rintro e w5 ⟨rfl,hb5⟩)
    go_ret2
    have hN:=(hor.keep hb5).natV (base:=w.heap.size) HLT.out hll (by omega) hb12.size HF.out
    exact⟨_,by rw[HD.out];rfl,hN,Ao hbw hb5⟩
 ·have HC:Hid (Ld a b = -1):=Lib.hid (by unfold Ld;rw[if_pos (by omega)])
  have HD:Hid (decide (b<=a)=false):=Lib.hid (by simpa using hle)
  have HZ:Hid (a-b=0):=Lib.hid (by omega)
  clear hle
  go_wp2_with (go_at_call 171;refine(Ja A B ca cb na nb a b _ HLA.out HLB.out (by omega) (by omega) hca hcb (hA.keep hb2') (hB.keep hb2')).mono ?_;rintro e w3 ⟨rfl,hb3⟩;rw[HC.out])
  go_ret2
  refine⟨.slice none 0 0,by rw[HD.out];rfl,?_,Ao hb2' hb3⟩
  rw[HZ.out];exact Q4 _ _
end
namespace Limb
theorem uh {l:List Nat} {V n:Nat} (hl:∀x∈l,x<BB) (hv:val l=V) (hn:(lmb V).length=n):l.take n=lmb V:=by
 have e:=fj hl l.length (Nat.le_refl _);rw[List.take_length,hv] at e;have h1:(l.take (trl l l.length)).length=n:=by rw[e,hn]
 rw[List.length_take,Nat.min_eq_left (Wt _ _)] at h1;rw[<-h1,e]
theorem xu {b d s n1:Nat} (hb:(lmb b).length=n1+1) (hd:lim b n1=d) (hs:s<=31) (h1:BB<=2*(d*2 ^ s)) (h2:d*2 ^ s<BB):(lmb (b*2 ^ s)).length=n1+1/\BB<=2*lim (b*2 ^ s) n1/\b*2 ^ s<BB ^ (n1+1):=by
 have t:=Uu (l:=lmb b) (j:=n1) (Jo b) (fun k hk=>by rw[List.getD,List.getElem?_eq_none (by omega)];rfl) (by omega)
 rw[Ew] at t;rw[show (lmb b).getD n1 0=d from hd] at t
 obtain⟨t1,t2⟩:=t;have hp:0<2 ^ s:=Nat.pow_pos (by decide)
 have hP:0<BB ^ n1:=Nat.pow_pos (by decide)
 have a1:d*2 ^ s*BB ^ n1<=b*2 ^ s:=by
  have:=Nat.mul_le_mul_right (2 ^ s) t1
  rwa [Nat.mul_right_comm] at this
 have a2:b*2 ^ s<BB ^ (n1+1):=by
  have:=Nat.mul_lt_mul_of_pos_right t2 hp;rw[Nat.mul_right_comm] at this;have hB:=Qu (s:=s) (by omega)
  have h3:d<2 ^ (32-s):=by
   rw[hB,Nat.mul_comm] at h2;exact Nat.lt_of_mul_lt_mul_left h2
  have h4:(d+1)*2 ^ s<=BB:=by
   rw[hB,Nat.mul_comm];exact Nat.mul_le_mul_left _ h3
  have h5:=Nat.mul_le_mul_right (BB ^ n1) h4;rw[Nat.pow_succ,Nat.mul_comm (BB ^ n1)];omega
 have a3:d*2 ^ s<=b*2 ^ s / BB ^ n1:=(Nat.le_div_iff_mul_le hP).2 a1
 have a4:b*2 ^ s / BB ^ n1<BB:=by
  rw[Nat.div_lt_iff_lt_mul hP,Nat.mul_comm BB,<-Nat.pow_succ];exact a2
 refine⟨?_,?_,a2⟩
 ·have l1:=Pt a2
  rcases Nat.lt_or_ge (lmb (b*2 ^ s)).length (n1+1) with g|g
  ·have:=Tk (b*2 ^ s)
   have h6:BB ^ (lmb (b*2 ^ s)).length<=BB ^ n1:=Nat.pow_le_pow_right (by decide) (by omega)
   have h7:1<=d*2 ^ s:=by unfold BB at h1;omega
   have:=Nat.mul_le_mul_right (BB ^ n1) h7;omega
  ·omega
 ·rw[Abk,Nat.mod_eq_of_lt a4];omega
end Limb
section
open Go.RowKit Limb
theorem ya (x:Nat) (w:World) (h0:0<x) (h1:x<BB):Calls Tryz.prog 210 #[.int .u32 (x:Int)] w fun e w'=>∃s:Nat,s<=31/\BB<=2*(x*2 ^ s)/\x*2 ^ s<BB/\e=.returned (.int .i64 (s:Int))/\w'=w:=by
 refine(Any.bits_LeadingZeros32 YtpbchbcdgikonaaGreat.lays133 (x:Int) w (by omega) (by unfold BB at h1;omega)).mono ?_
 rintro e w' ⟨rfl,rfl⟩;rw[Int.toNat_natCast];obtain⟨b1,a3,a1⟩:1<=Lib.bitLen x/\2 ^ (Lib.bitLen x-1)<=x/\x<2 ^ Lib.bitLen x:=Lib.bitLenAux_bounds 64 x (by unfold BB at h1;omega) (by omega)
 have b2:Lib.bitLen x<=32:=by
  apply Classical.byContradiction;intro hc;have:2 ^ 32<=2 ^ (Lib.bitLen x-1):=Nat.pow_le_pow_right (by decide) (by omega)
  unfold BB at h1;omega
 have e1:2 ^ (Lib.bitLen x-1)*2 ^ (32-Lib.bitLen x)*2=BB:=by
  rw[<-Nat.pow_add,<-Nat.pow_succ,show (Lib.bitLen x-1+(32-Lib.bitLen x)).succ=32 by omega];rfl
 have e2:2 ^ Lib.bitLen x*2 ^ (32-Lib.bitLen x)=BB:=by
  rw[<-Nat.pow_add,show Lib.bitLen x+(32-Lib.bitLen x)=32 by omega];rfl
 have hp:0<2 ^ (32-Lib.bitLen x):=Nat.pow_pos (by decide)
 refine⟨32-Lib.bitLen x,by omega,?_,?_,?_,rfl⟩
 ·have:=Nat.mul_le_mul_right (2 ^ (32-Lib.bitLen x)) a3
  omega
 ·have:=Nat.mul_lt_mul_of_pos_right a1 hp
  omega
 ·exact Bh (by omega)
theorem xw (A B:Option Addr) (ca cb na nb a b:Nat) (w:World) (ha:(lmb a).length=na) (hb:(lmb b).length=nb) (hna:na<=100000) (hnb:nb<=100000) (hca:na<=ca) (hcb:nb<=cb) (hA:G3 w A na (lmb a)) (hB:G3 w B nb (lmb b)) (hA0:A=none->ca=0) (hb0:0<b) :
 Calls Tryz.prog 174 #[.slice A na ca,.slice B nb cb] w fun e w'=>∃q r,e=.returned (.tuple #[q,r,.bool true])/\Cq w' w.heap.size q (a / b)/\Cq w' w.heap.size r (a % b)/\Below w.heap.size w w':=by
 have ta:trl (lmb a) na=na:=by rw[<-ha];exact Ex a
 have tb:trl (lmb b) nb=nb:=by rw[<-hb];exact Ex b
 have hnb0:0<nb:=by
  rcases Nat.eq_zero_or_pos nb with g|g
  ·rw[g] at hb
   have:=Ew b;rw[List.eq_nil_of_length_eq_zero hb] at this;simp[val] at this;omega
  ·exact g
 have HTA:=Lib.hid ta;have HTB:=Lib.hid tb;have HLA:=Lib.hid ha;have HLB:=Lib.hid hb;have HB0:=Lib.hid hb0;clear ta tb ha hb hb0;go_enter Tryz.func174,Tryz.ntmps174
 go_upto_region 4 with (first
  | (go_at_call 172;refine(Bv B cb nb (lmb b) _ (by omega) hcb (hB.keep hb1)).mono ?_;rintro e w2 ⟨rfl,hb2⟩;rw[HTB.out])
  | (go_at_call 172;refine(Bv A ca na (lmb a) _ (by omega) hca hA).mono ?_;rintro e w1 ⟨rfl,hb1⟩;rw[HTA.out]))
 have hb2':=Ao hb1 hb2;clear hb1 hb2;by_cases hlt:a<b
 ·have HC:Hid (Ld a b = -1):=Lib.hid (by unfold Ld;rw[if_pos hlt])
  have HD:Hid (a / b=0):=Lib.hid (Nat.div_eq_of_lt hlt);have HM:Hid (a % b=a):=Lib.hid (Nat.mod_eq_of_lt hlt);clear hlt
  go_wp2_with (first
   | (go_at_call 208;refine(Tf A ca na a _ HLA.out (by omega) hca hA0 ((hA.keep hb2').keep hb3)).mono ?_;rintro e w4 ⟨v4,rfl,hv4,hb4⟩)
   | (go_at_call 171;refine(Ja A B ca cb na nb a b _ HLA.out HLB.out (by omega) (by omega) hca hcb (hA.keep hb2') (hB.keep hb2')).mono ?_;rintro e w3 ⟨rfl,hb3⟩;rw[HC.out]))
  go_ret3
  refine⟨.slice none 0 0,v4,rfl,?_,?_,Ao (Ao hb2' hb3) hb4⟩
  ·rw[HD.out];exact Q4 _ _
  ·rw[HM.out];exact hv4.lower (Ao hb2' hb3).size
 ·obtain⟨c,hc,HC⟩:∃c,0<=c/\Hid (Ld a b=c):=⟨_,by unfold Ld;rw[if_neg hlt];split<;>omega,Lib.hid rfl⟩
  have HN:Hid (nb<=na):=Lib.hid (by rw[<-HLA.out,<-HLB.out];exact Pu (by omega))
  clear hlt;by_cases h1:nb=1
  ·subst h1
   obtain⟨d,hd⟩:∃d,lim b 0=d:=⟨_,rfl⟩
   have hd':gu (lmb b) 0=d:=hd
   have hdb:b=d:=by
    have e:=Ew b;have hl:=HLB.out;rw[<-hd];unfold lim
    match lmb b,hl,e with
    | [x],_,e=>rw[<-e];simp[val]
   have HDB:=Lib.hid hdb;have hdl:=Dh b 0;rw[hd] at hdl;have hd0:0<d:=by rw[<-hdb];exact HB0.out
   have HL:=Lib.hid hdl;obtain⟨r,hr⟩:∃r,a % d=r:=⟨_,rfl⟩
   have HR:=Lib.hid hr;have hrb:r<4294967296:=by rw[<-hr];exact Nat.lt_trans (Nat.mod_lt _ hd0) hdl
   have W1:=Eb (z:=(r:Int)) (by omega) (by omega)
   clear hd hdb hdl hr
   go_upto_region 7 with (go_at_call 171;refine(Ja A B ca cb na 1 a b _ HLA.out HLB.out (by omega) (by omega) hca hcb (hA.keep hb2') (hB.keep hb2')).mono ?_;rintro e w3 ⟨rfl,hb3⟩;rw[HC.out])
   have hb3':=Ao hb2' hb3;obtain⟨b2,o2,rfl,z2⟩:=(hB.keep hb3').at_ (k:=0) (by omega)
   rw[hd',Nat.add_zero] at z2;clear hd'
   go_wp2_with (first
    | (go_at_call 170;refine(Qz r _ (by omega)).mono ?_;rintro e w5 ⟨v5,rfl,hv5,hb5⟩;have hX5:=hX4)
    | (go_at_call 209;refine(ae A ca na a d _ HLA.out (by omega) hca (hA.keep hb3') hd0 HL.out).mono ?_;rintro e w4 ⟨v4,rfl,hv4,hb4⟩;rw[HR.out];have hX4:=hb4))
   go_ret3
   have hb4':=Ao hb3' hb4;refine⟨v4,v5,rfl,?_,?_,Ao hb4' hb5⟩
   ·rw[HDB.out];exact(hv4.keep hb5).lower hb3'.size
   ·rw[HDB.out,HR.out];exact hv5.lower hb4'.size
  ·go_upto_region 10 with (go_at_call 171;refine(Ja A B ca cb na nb a b _ HLA.out HLB.out (by omega) (by omega) hca hcb (hA.keep hb2') (hB.keep hb2')).mono ?_;rintro e w3 ⟨rfl,hb3⟩;rw[HC.out])
   have hb3':=Ao hb2' hb3;clear hb3 hb2';obtain⟨n1,hn1⟩:∃n1,n1+1=nb:=⟨nb-1,by omega⟩
   obtain⟨b2,o2,rfl,z2⟩:=(hB.keep hb3').at_ (k:=n1) (by omega)
   obtain⟨d,hd⟩:∃d,lim b n1=d:=⟨_,rfl⟩
   have hd':gu (lmb b) n1=d:=hd;rw[hd'] at z2;have hdl:=Dh b n1
   have hd0:0<lim b n1:=by
    have:=X9 (n:=b) (by have:=HB0.out;omega)
    rw[HLB.out,show nb-1=n1 by omega] at this
    unfold lim;omega
   rw[hd] at hdl hd0;have N1:(nb:Int)-1=(n1:Int):=by omega
   have B1:(n1:Int)<(nb:Int):=by omega
   have B2:(0:Int)<=(n1:Int):=by omega
   have HD:=Lib.hid hd;have HN1:=Lib.hid hn1;clear hd hd' hn1
   go_upto_region 11 with (go_at_call 210;refine(ya d _ hd0 hdl).mono ?_;rintro e w4 ⟨s,hs,hs1,hs2,rfl,rfl⟩)
   have HS1:=Lib.hid hs1;have HS2:=Lib.hid hs2;clear hs1 hs2 N1 B1 B2 z2 hd0 hdl
   go_region_with (first
    | (go_at_call 211;refine(Tg (some ⟨b2,o2,none⟩) cb nb b s _ HLB.out (by omega) hcb (hB.keep (Ao (Aw hb3') hb5)) hs).mono ?_;rintro e w6 ⟨g6,l6,rfl,hg6,hg6',hl6,hl6n,hl6t,hl6v,hb6⟩)
    | (go_at_call 211;refine(Tg A ca na a s _ HLA.out (by omega) hca (hA.keep (Aw hb3')) hs).mono ?_;rintro e w5 ⟨g5,l5,rfl,hg5,hg5',hl5,hl5n,hl5t,hl5v,hb5⟩))
   have hb4':=Ao (Aw hb3') hb5;have hb6':=Ao hb4' hb6;have Hg6:=hl6.lt;have Hg5:=(hl5.keep hb6).lt;have Hg5w:w.heap.size<=g5:=Nat.le_trans (Aw hb3').size hg5;have hl5':=hl5.keep hb6;have hA6:=hA.keep hb6';obtain⟨K1,K2,K3⟩:=xu (by rw[HLB.out];exact HN1.out.symm) HD.out hs HS1.out HS2.out
   rw[HN1.out] at K1;obtain⟨V,hV⟩:∃V,b*2 ^ s=V:=⟨_,rfl⟩
   rw[hV] at K1 K2 K3 hl6v;have HVV:=Lib.hid hV
   have hv6:G3 w6 (some ⟨g6,0,none⟩) nb (lmb V):=by
    have:=hl6.u32s.take (m:=nb) (by omega)
    rwa [uh hl6t hl6v K1] at this
   obtain⟨nq,hnq⟩:∃nq,na+1-nb=nq:=⟨_,rfl⟩
   have hNN:=HN.out;have NQ:(na:Int)+1-(nb:Int)=(nq:Int):=by omega
   obtain⟨Z,hmk,hZ⟩:=Gc nq (by omega)
   have hqn:nq+nb=na+1:=by omega
   have HD0:Hid (DivI (a*2 ^ s) V nq (List.replicate nq 0) l5):=Lib.hid (by
    have:=po (b:=b) HLB.out HLA.out (by omega) HN.out hs (by rw[show nb-1=n1 by have:=HN1.out;omega,HD.out];exact HS1.out) hl5v nq
    rwa [hV,hnq] at this)
   have hne:g5≠g6:=by have:=hl5.lt;omega
   have HV0:Hid (0<V):=Lib.hid (by
    rw[<-hV];exact Nat.mul_pos HB0.out (Nat.pow_pos (by decide)))
   have HK1:=Lib.hid K1;have HK2:=Lib.hid K2;have HK3:=Lib.hid K3;have HNN1:=HN1;clear hnq hNN hl5v hl6v hl6t hl6n hl6 hl5 K1 K2 K3 hV hb6 hb5 HS1 HS2 HD hb4' hb3';go_wp2_with fail;have hgq:=hb6'.size;have hg6lt:=hv6.at_ (k:=0) (by omega)
   go_loopw [14] (fun i wr=>∃(k:Nat) (z:Int) (ql L:List Nat),k<=nq/\z=(k:Int)-1/\i=.int .i64 z/\Hid (DivI (a*2 ^ s) V k ql L/\ql.length=nq/\(∀x∈ql,x<BB)/\L.length=na+1/\(∀x∈L,x<BB))/\Mb wr w6.heap.size ql/\Mb wr g5 L/\G3 wr (some ⟨g6,0,none⟩) nb (lmb V)/\Below w.heap.size w wr) (fun i _=>(intOf i+1).toNat)
   case atStart=>exact⟨nq,_,_,l5,Nat.le_refl _,rfl,rfl,Lib.hid ⟨HD0.out,List.length_replicate,Hn _,hl5n,hl5t⟩,hZ w6,hl5'.keep (Below.alloc (Below.refl _ _) (Nat.le_refl _) _),hv6.keep (Below.alloc (Below.refl _ _) (Nat.le_refl _) _),An hb6' _⟩
   case round =>
    clear hmk hZ HD0 hl5' hv6 hA6;obtain⟨k,z,ql,L,hk,hz,rfl,HI,hq,hu,hv,hbr⟩:=hrel;obtain⟨hI,hqn',hqt,hLn,hLt⟩:=HI.out;have hgl1:=hq.lt;have hgl2:=hu.lt;cases k with
    | zero =>
      obtain rfl:z = -1:=by omega
      have hI2:DivI (a*2 ^ s) (b*2 ^ s) 0 ql L:=by rw[HVV.out];exact hI
      obtain⟨F1,F2,F3⟩:=hI2.fin HB0.out;have HF1:=Lib.hid F1
      have htk:val (L.take nb)=val L:=by
       have e:=Ik L nb (by omega)
       rw[drop_zero (fun j hj=>Aid hLt (m:=nb) (Nat.lt_trans F3 (by rw[HVV.out,<-HN1.out];exact HK3.out)) j hj),Nat.mul_zero,Nat.add_zero] at e
       exact e.symm
      rw[<-htk] at F2;have HF2:=Lib.hid F2;have HQT:=Lib.hid hqt;have HTT:=Lib.hid (fun x (hx:x∈L.take nb)=>hLt x (List.mem_of_mem_take hx))
      have hU:=hq.u32s;rw[hqn'] at hU;have hU2:=hu.u32s.take (m:=nb) (by omega)
      have z1:nb<=na+1:=by omega
      have z2:(nb:Int)<=(na:Int)+1:=by omega
      clear hz hI hI2 HI F1 F2 F3 htk hqt hLt;go_upto_region 17 with fail
      go_region_with (first
       | (go_at_call 213;refine(af (some ⟨g5,0,none⟩) (na+1) nb s (L.take nb) _ (by omega) (hU2.keep (Ao (Aw (Below.refl _ _)) hb7)) HTT.out hs).mono ?_;rintro e w8 ⟨v8,rfl,hv8,hb8⟩)
       | (go_at_call 172;refine(Bv _ nq nq ql _ (by omega) (Nat.le_refl _) (hU.keep (Aw (Below.refl _ _)))).mono ?_;rintro e w7 ⟨rfl,hb7⟩))
      all_goals go_wp2_with fail
      have hb9:=Ao (Ao (Aw hbr) hb7) hb8;have hN:=((hq.keep (Aw (Below.refl _ _))).keep hb7).keep hb8 |>.natV (base:=w.heap.size) HQT.out hqn' (by omega) hgq HF1.out
      rw[HF2.out] at hv8;have hR:=hv8.lower (Ao (Aw hbr) hb7).size
      go_ret3
      exact⟨_,_,rfl,hN,hR,hb9⟩
    | succ k =>
      obtain rfl:z=(k:Int):=by omega
      clear hz;have hX:val L<V*BB ^ k*BB:=by rw[Nat.mul_assoc,<-Nat.pow_succ];exact hI.lt
      have hzz:∀j,k+nb<j->L.getD j 0=0:=fun j hj=>Aid hLt (m:=k+nb+1) (by
       rw[show k+nb+1=nb+(k+1) by omega,Nat.pow_add]
       exact Nat.lt_of_lt_of_le hI.lt (Nat.mul_le_mul_right _ (Nat.le_of_lt (by rw[<-HN1.out];exact HK3.out)))) j hj
      obtain⟨d1,hd1⟩:∃d,val L / (V*BB ^ k)=d:=⟨_,rfl⟩
      have HX:=Lib.hid hX;have HZZ:=Lib.hid hzz;have HE1:=Lib.hid hd1;obtain⟨c1,f1⟩:=hq.cell (k:=k) (by omega)
      have z1:(0:Int)<=(k:Int):=by omega
      have z2:(k:Int)<(nq:Int):=by omega
      have z3:(k:Int)+(nb:Int)+1<=(na:Int)+1:=by omega
      have z4:(k:Int)<=(k:Int)+(nb:Int)+1:=by omega
      have z5:(k:Int)+(nb:Int)<=(na:Int):=by omega
      have z6:k<na+1:=by omega
      have z7:k+nb+1-k=nb+1:=by omega
      clear hX hzz hd1
      go_wp2_with (go_at_call 212;refine(ao g5 k nb V (na+1-k) (nb+1) L (some ⟨g6,0,none⟩) _ (by omega) HK1.out (by omega) (by omega) hv (fun p hp=>by injection hp with hp;subst hp;exact fun e=>hne e.symm) hu hLt HZZ.out (by rw[show nb-1=n1 by have:=HN1.out;omega];exact HK2.out) HX.out (by omega) (by omega)).mono ?_;rintro e w7 ⟨L',rfl,hL',hLn',hLt',hLv',hG⟩;rw[HE1.out];have hq7:Mb w7 w6.heap.size ql:=(hG.block _ hgl1 (fun e=>by injection e with e;omega)).trans hq;obtain⟨c7,f7⟩:=hq7.cell (k:=k) (by omega))
      refine⟨⟨k,(k:Int)-1,ql.set k d1,L',by omega,rfl,by go_num,Lib.hid ?_,hq7.store k d1,Bb.far hL' (p:=⟨w6.heap.size,k,none⟩) (Nat.ne_of_lt Hg5) _,(hv.grown hG (fun p hp=>by injection hp with hp;subst hp;exact fun e=>hne e.symm)).far (p:=⟨w6.heap.size,k,none⟩) (fun p hp=>by injection hp with hp;subst hp;exact Nat.ne_of_lt Hg6) _,Bc (Below.grown hbr hG hbr.size (fun j hj=>by injection hj with hj;omega)) (p:=⟨w6.heap.size,k,none⟩) hgq _⟩,by simp[intOf]⟩
      obtain⟨r1,r2⟩:=hI.step (q:=ql) (by omega) HV0.out HE1.out.symm hLv'
      exact⟨r1,by rw[List.length_set];exact hqn',Hy hqt r2,by rw[hLn'];exact hLn,hLt'⟩
end
section
open Go.RowKit Limb
def SM:Nat:=38
def Sm (a:Nat):Prop:=a<BB ^ SM
theorem Ab5 (k:Nat):BB ^ k=2 ^ (32*k):=by rw[show BB=2 ^ 32 from rfl,<-Nat.pow_mul]
theorem Sm.len {a:Nat} (h:Sm a):(lmb a).length<=100000:=Nat.le_trans (Pt h) (by decide)
theorem H8 {a m:Nat} (h:a<2 ^ m) (hm:m<=1216):Sm a:=by
 unfold Sm;rw[Ab5];exact Nat.lt_of_lt_of_le h (Nat.pow_le_pow_right (by decide) (Nat.le_trans hm (by decide)))
theorem Sm.le {a b:Nat} (h:Sm b) (hle:a<=b):Sm a:=Nat.lt_of_le_of_lt hle h
def Aiz (w:World) (a:Nat) (e:Ending) (w':World):Prop:=∃v,e=.returned v/\Cq w' w.heap.size v a/\Below w.heap.size w w'
section
variable {w : World} {ba bb a b : Nat} {va vb : Value}
theorem Aij (hA:Cq w ba va a) (hB:Cq w bb vb b) (sa:Sm a) (sb:Sm b):Calls Tryz.prog 178 #[va,vb] w (Aiz w (a+b)):=by
 obtain⟨A,ca,rfl,a1,a2,a3,a4,a5⟩:=hA;obtain⟨B,cb,rfl,b1,b2,b3,b4,b5⟩:=hB;rcases Nat.lt_or_ge (lmb a).length (lmb b).length with g|g
 ·exact Adh B A cb ca _ _ b a w rfl rfl sb.len g b1 a1 b3 a3
 ·exact Adi A B ca cb _ _ a b w rfl rfl sa.len g a1 b1 a3 b3
theorem Ai5 (hA:Cq w ba va a) (hB:Cq w bb vb b) (sa:Sm a) (sb:Sm b):Calls Tryz.prog 215 #[va,vb] w fun e w'=>∃v,e=.returned (.tuple #[v,.bool (decide (b<=a))])/\Cq w' w.heap.size v (a-b)/\Below w.heap.size w w':=by
 obtain⟨A,ca,rfl,a1,a2,a3,a4,a5⟩:=hA;obtain⟨B,cb,rfl,b1,b2,b3,b4,b5⟩:=hB;exact xt A B ca cb _ _ a b w rfl rfl sa.len sb.len a1 b1 a3 b3
theorem Afa (hA:Cq w ba va a) (hB:Cq w bb vb b) (sa:Sm a) (sb:Sm b):Calls Tryz.prog 143 #[va,vb] w (Aiz w (a*b)):=by
 obtain⟨A,ca,rfl,a1,a2,a3,a4,a5⟩:=hA;obtain⟨B,cb,rfl,b1,b2,b3,b4,b5⟩:=hB;exact xv A B ca cb _ _ a b w rfl rfl sa.len sb.len a1 b1 a3 b3
theorem Acb (hA:Cq w ba va a) (sa:Sm a):Calls Tryz.prog 208 #[va] w (Aiz w a):=by
 obtain⟨A,ca,rfl,a1,a2,a3,a4,a5⟩:=hA;exact Tf A ca _ a w rfl sa.len a1 a4 a3
theorem Ai6 (hA:Cq w ba va a) (hB:Cq w bb vb b) (sa:Sm a) (sb:Sm b):Calls Tryz.prog 171 #[va,vb] w fun e w'=>e=.returned (.int .i64 (Ld a b))/\Below w.heap.size w w':=by
 obtain⟨A,ca,rfl,a1,a2,a3,a4,a5⟩:=hA;obtain⟨B,cb,rfl,b1,b2,b3,b4,b5⟩:=hB;exact Ja A B ca cb _ _ a b w rfl rfl (by have:=sa.len;omega) (by have:=sb.len;omega) a1 b1 a3 b3
theorem Aii (hA:Cq w ba va a) (hB:Cq w bb vb b) (sa:Sm a) (sb:Sm b) (hb:0<b):Calls Tryz.prog 174 #[va,vb] w fun e w'=>∃q r,e=.returned (.tuple #[q,r,.bool true])/\Cq w' w.heap.size q (a / b)/\Cq w' w.heap.size r (a % b)/\Below w.heap.size w w':=by
 obtain⟨A,ca,rfl,a1,a2,a3,a4,a5⟩:=hA;obtain⟨B,cb,rfl,b1,b2,b3,b4,b5⟩:=hB;exact xw A B ca cb _ _ a b w rfl rfl sa.len sb.len a1 b1 a3 b3 a4 hb
end
theorem Cq.uniq {w:World} {ba bb a b:Nat} {v:Value} (hA:Cq w ba v a) (hB:Cq w bb v b):a=b:=by
 obtain⟨A,ca,rfl,a1,a2,a3,a4,a5⟩:=hA;obtain⟨B,cb,e,b1,b2,b3,b4,b5⟩:=hB;injection e with e1 e2 e3
 subst e1
 have hl:lmb a=lmb b:=by
  apply List.ext_getElem e2;intro k h1 h2;obtain⟨p,o,e4,c1⟩:=a3.at_ h1;obtain⟨p',o',e5,c2⟩:=b3.at_ h2;rw[e4] at e5;injection e5 with e5
  injection e5 with e5 e6
  subst e5 e6;rw[c1] at c2;injection c2 with c2
  injection c2 with _ c2
  have g1:=Lr h1;have g2:=Lr h2;rw[List.getElem?_eq_getElem h1] at g1;rw[List.getElem?_eq_getElem h2] at g2;injection g1 with g1
  injection g2 with g2
  omega
 rw[<-Ew a,<-Ew b,hl]
open Classical in
noncomputable def natOf (w:World) (v:Value):Nat:=if h:∃a,Cq w 0 v a then h.choose else 0
theorem Xw {w:World} {b a:Nat} {v:Value} (h:Cq w b v a):natOf w v=a:=by
 have h0:∃a,Cq w 0 v a:=⟨a,h.lower (Nat.zero_le _)⟩
 unfold natOf;rw[dif_pos h0];exact Cq.uniq h0.choose_spec h
theorem Akp {w:World} {ba bb a b:Nat} {va vb:Value} (hA:Cq w ba va a) (hB:Cq w bb vb b) (sa:Sm a) (sb:Sm b):Calls Tryz.prog 173 #[va,vb] w (Aiz w (Nat.gcd a b)):=by
 go_enter Tryz.func173,Tryz.ntmps173
 go_wp2_with (first
  | (go_at_call 208;refine(Acb (hB.keep hb1) sb).mono ?_;rintro e w2 ⟨v2,rfl,hv2,hb2⟩)
  | (go_at_call 208;refine(Acb hA sa).mono ?_;rintro e w1 ⟨v1,rfl,hv1,hb1⟩))
 have hb12:=Ao hb1 hb2;have hv1':=(hv1.keep hb2).lower (Nat.le_refl _);have hv2':=hv2.lower hb1.size;clear hv1 hv2 hb1 hb2 hA hB;go_loopw [0,1,5,6,7,15] (fun x y _ _ _ _ wr=>∃m n:Nat,Cq wr w.heap.size x m/\Cq wr w.heap.size y n/\Sm m/\Sm n/\Hid (Nat.gcd a b=Nat.gcd m n)/\Below w.heap.size w wr) (fun _ y _ _ _ _ wr=>natOf wr y)
 case atStart=>exact⟨a,b,hv1',hv2',sa,sb,Lib.hid rfl,hb12⟩
 case round =>
  clear hv1' hv2' hb12;obtain⟨m,n,hX,hY,sm,sn,HG,hbr⟩:=hrel;have hn:=Xw hY;obtain⟨B,cb,rfl,b1,b2,b3,b4,b5⟩:=id hY;by_cases h0:n=0
  ·have HR:Hid (Nat.gcd a b=m):=Lib.hid (by rw[HG.out,h0,Nat.gcd_zero_right])
   have hl:(lmb n).length=0:=by rw[h0,Cs];rfl
   obtain⟨k,hk⟩:∃k,(lmb n).length=k:=⟨_,rfl⟩
   rw[hk] at hl ⊢;clear hk hn b1 b3 hY HG h0 sn;subst hl;go_wp2_with fail;go_ret;exact⟨_,rfl,by rw[HR.out];exact hX,hbr⟩
  ·have hl:0<(lmb n).length:=by rw[Gd h0];simp
   obtain⟨k,hk⟩:∃k,(lmb n).length=k:=⟨_,rfl⟩
   have HN0:=Lib.hid (Nat.pos_of_ne_zero h0);have HG2:Hid (Nat.gcd a b=Nat.gcd n (m % n)):=Lib.hid (by rw[HG.out,Nat.gcd_comm,Nat.gcd_rec,Nat.gcd_comm])
   have HML:=Lib.hid (Nat.mod_lt m (Nat.pos_of_ne_zero h0));have sr:Sm (m % n):=sn.le (Nat.le_of_lt HML.out);obtain⟨r,hr⟩:∃r,m % n=r:=⟨_,rfl⟩
   have HRR:=Lib.hid hr;rw[hr] at HG2 HML sr;rw[hk] at hl hn hY ⊢;clear hk b1 b3 h0 hr HG
   go_wp2_with (go_at_call 174;refine(Aii hX hY sm sn HN0.out).mono ?_;rintro e w3 ⟨q3,r3,rfl,hq3,hr3,hb3⟩;rw[HRR.out] at hr3)
   refine⟨⟨n,r,hY.keep hb3,hr3.lower hbr.size,sn,sr,HG2,Ao hbr hb3⟩,?_⟩;have hn2:=Xw hr3
   show natOf w3 r3<natOf wr _
   rw[hn2,hn];exact HML.out
end
section
open Go.RowKit Limb
def sg (b:Bool) (a:Nat):Int:=if b then -(a:Int) else a
theorem Aa6 (b:Bool) (a:Nat):(sg b a).natAbs=a:=by unfold sg;split<;>omega
theorem Af9 (b:Bool) (a:Nat):decide (sg b a<0)=(b&&decide (0<a)):=by
 unfold sg;cases b<;>simp
def Mq (w:World) (base:Nat) (v:Value) (z:Int):Prop:=∃m,v=.agg #[.bool (decide (z<0)),m]/\Cq w base m z.natAbs
theorem Mq.keep {w w':World} {base:Nat} {v:Value} {z:Int} (h:Mq w base v z) (hb:Below w.heap.size w w'):Mq w' base v z:=by
 obtain⟨m,e,hm⟩:=h;exact⟨m,e,hm.keep hb⟩
def Aat (w:World) (z:Int) (e:Ending) (w':World):Prop:=∃v,e=.returned v/\Mq w' w.heap.size v z/\Below w.heap.size w w'
theorem Cq.far {w:World} {base:Nat} {v:Value} {a:Nat} (h:Cq w base v a) {p:Addr} (hp:p.block<base) (u:Value):Cq (w.setCell p u) base v a:=by
 obtain⟨A,c,e,h1,h2,h3,h4,h5⟩:=h;exact⟨A,c,e,h1,h2,h3.far (fun q hq=>Nat.ne_of_gt (Nat.lt_of_lt_of_le hp (h5 q hq))) u,h4,h5⟩
theorem Ag0 {w w1:World} {base a:Nat} {m:Value} {b:Bool} {bs:Bool} (h:Cq w1 base m a) (hw:w.heap.size<=base) (hb:bs=(b&&decide (0<a))):Mq w1 w.heap.size (.agg #[.bool bs,m]) (sg b a) :=
 ⟨m,by rw[Af9,hb],by rw[Aa6];exact h.lower hw⟩
theorem Iv {w:World} {ba a:Nat} {va:Value} (b:Bool) (hA:Cq w ba va a) (sa:Sm a):Calls Tryz.prog 214 #[.bool b,va] w (Aat w (sg b a)):=by
 go_enter Tryz.func214,Tryz.ntmps214;go_upto_region 1 with fail;refine Ar (fun X=>Below w.heap.size w X/\Bb X w.heap.size 159 #[.bool false,.slice none 0 0]) ⟨An (Below.refl _ _) _,Bb.new _ _ _⟩ ?_
 rintro X ⟨hbX,hR⟩
 go_upto_region 2 with (go_at_call 208;refine(Acb (hA.keep hbX) sa).mono ?_;rintro e w1 ⟨v1,rfl,hv1,hb1⟩)
 have hR1:=hR.keep hb1;have hb1':=Ao hbX hb1;have hlt:=hR.lt;obtain⟨A1,c1,rfl,q1,q2,q3,q4,q5⟩:=id hv1;obtain⟨r0,r1,f0,f1,lt⟩:=hR1.pair;obtain⟨k,hk⟩:∃k,(lmb a).length=k:=⟨_,rfl⟩
 have HA:Hid (decide (0<a)=decide (0<k)):=Lib.hid (by
  rw[<-hk];by_cases h0:a=0
  ·rw[h0,Cs];rfl
  ·rw[Gd h0];simp;omega)
 rw[hk] at hv1 ⊢;clear q1 q2 q3 q4 q5 hR hk hA hbX hb1;obtain⟨bs,hbs⟩:∃bs,(b&&decide (0<k))=bs:=⟨_,rfl⟩
 have HBS:Hid (bs=(b&&decide (0<a))):=Lib.hid (by rw[HA.out,hbs])
 have hN:=(hv1.far (p:=⟨w.heap.size,0,none⟩) hlt (.bool bs)).far (p:=⟨w.heap.size,1,none⟩) hlt (.slice A1 k c1);have hB:=Bc (Bc hb1' (p:=⟨w.heap.size,0,none⟩) (Nat.le_refl _) (.bool bs)) (p:=⟨w.heap.size,1,none⟩) (Nat.le_refl _) (.slice A1 k c1);obtain⟨s0,s1,-,-,-⟩:=Bb.pair (u:=.bool bs) (v:=.slice A1 k c1) ((hR1.set_ 0 (.bool bs)).set_ 1 (.slice A1 k c1));have HR:Hid (Aat w (sg b a) (.returned (.agg #[.bool bs,.slice A1 k c1])) ((w1.setCell ⟨w.heap.size,0,none⟩ (.bool bs)).setCell ⟨w.heap.size,1,none⟩ (.slice A1 k c1))):=Lib.hid ⟨_,rfl,Ag0 hN (Nat.le_of_lt hlt) HBS.out,hB⟩;clear hN hB HBS HA hR1 hv1;cases b with
 | true =>
   by_cases h0:0<k
   ·obtain rfl:bs=true:=by rw[<-hbs];simpa using h0
    clear hbs;go_wp2_with fail;exact bodyPost_ret (v:=.agg #[.bool true,.slice A1 k c1]) (by simp[results,Tryz.results214,go_sem,s0,s1]) rfl HR.out
   ·obtain rfl:bs=false:=by rw[<-hbs];simpa using h0
    clear hbs;go_wp2_with fail;exact bodyPost_ret (v:=.agg #[.bool false,.slice A1 k c1]) (by simp[results,Tryz.results214,go_sem,s0,s1]) rfl HR.out
 | false =>
   obtain rfl:bs=false:=by rw[<-hbs];rfl
   clear hbs;go_wp2_with fail;exact bodyPost_ret (v:=.agg #[.bool false,.slice A1 k c1]) (by simp[results,Tryz.results214,go_sem,s0,s1]) rfl HR.out
theorem Cq.sl {w:World} {base:Nat} {v:Value} {a:Nat} (h:Cq w base v a):∃A n c,v=.slice A n c:=by
 obtain⟨A,c,e,-⟩:=h;exact⟨A,_,c,e⟩
theorem Hr {w w1:World} {g base:Nat} {T:TypeId} {x y m:Value} {z:Int} (hR:Bb w1 g T #[x,y]) (hm:Cq w1 base m z.natAbs) (hg:g<base) (hw:w.heap.size<=g) (hb:Below w.heap.size w w1) :
 ((w1.setCell ⟨g,0,none⟩ (.bool (decide (z<0)))).setCell ⟨g,1,none⟩ m).cell? ⟨g,0,none⟩=some (.bool (decide (z<0)))/\((w1.setCell ⟨g,0,none⟩ (.bool (decide (z<0)))).setCell ⟨g,1,none⟩ m).cell? ⟨g,1,none⟩=some m/\Aat w z (.returned (.agg #[.bool (decide (z<0)),m])) ((w1.setCell ⟨g,0,none⟩ (.bool (decide (z<0)))).setCell ⟨g,1,none⟩ m):=by
 obtain⟨s0,s1,-,-,-⟩:=Bb.pair (u:=.bool (decide (z<0))) (v:=m) ((hR.set_ 0 (.bool (decide (z<0)))).set_ 1 m);exact⟨s0,s1,_,rfl,⟨m,rfl,((hm.far (p:=⟨g,0,none⟩) hg _).far (p:=⟨g,1,none⟩) hg _).lower (by omega)⟩,Bc (Bc hb (p:=⟨g,0,none⟩) hw _) (p:=⟨g,1,none⟩) hw _⟩
theorem Vp {w:World} {ba a:Nat} {va:Value} (b:Bool) (hA:Cq w ba va a) (sa:Sm a):Calls Tryz.prog 175 #[.agg #[.bool b,va]] w (Aat w (sg b a)):=by
 go_enter Tryz.func175,Tryz.ntmps175;go_upto_region 1 with fail;refine Ar (fun X=>Below w.heap.size w X/\Bb X w.heap.size 159 #[.bool b,va]/\Bb X (w.heap.size+1) 159 #[.bool false,.slice none 0 0]) ⟨An (An (Below.refl _ _) _) _,Bb.alloc (Bb.new _ _ _) _,Bb.new2 _ _ _ _⟩ ?_
 rintro X ⟨hbX,hP,hR⟩;obtain⟨p0,p1,-,-,-⟩:=hP.pair;have hltR:=hR.lt
 go_wp2_with (go_at_call 214;refine(Iv b (hA.keep hbX) sa).mono ?_;rintro e w1 ⟨v1,rfl,⟨m1,rfl,hm1⟩,hb1⟩;have hR1:=hR.keep hb1;obtain⟨r0,r1,f0,f1,lt⟩:=hR1.pair;obtain⟨A1,n1,c1,rfl⟩:=hm1.sl)
 obtain⟨s0,s1,HR⟩:=Hr (w:=w) hR1 hm1 hltR (by omega) (Ao hbX hb1)
 exact bodyPost_ret (v:=.agg #[.bool (decide (sg b a<0)),.slice A1 n1 c1]) (by simp[results,Tryz.results175,go_sem,s0,s1]) rfl HR
theorem Alj {w:World} {ba a:Nat} {va:Value} (b:Bool) (hA:Cq w ba va a) (sa:Sm a):Calls Tryz.prog 181 #[.agg #[.bool b,va]] w (Aat w (sg (!b) a)):=by
 go_enter Tryz.func181,Tryz.ntmps181;go_upto_region 1 with fail;refine Ar (fun X=>Below w.heap.size w X/\Bb X w.heap.size 159 #[.bool b,va]/\Bb X (w.heap.size+1) 159 #[.bool false,.slice none 0 0]) ⟨An (An (Below.refl _ _) _) _,Bb.alloc (Bb.new _ _ _) _,Bb.new2 _ _ _ _⟩ ?_
 rintro X ⟨hbX,hP,hR⟩;obtain⟨p0,p1,-,-,-⟩:=hP.pair;have hltR:=hR.lt
 go_wp2_with (go_at_call 214;refine(Iv (!b) (hA.keep hbX) sa).mono ?_;rintro e w1 ⟨v1,rfl,⟨m1,rfl,hm1⟩,hb1⟩;have hR1:=hR.keep hb1;obtain⟨r0,r1,f0,f1,lt⟩:=hR1.pair;obtain⟨A1,n1,c1,rfl⟩:=hm1.sl)
 obtain⟨s0,s1,HR⟩:=Hr (w:=w) hR1 hm1 hltR (by omega) (Ao hbX hb1)
 exact bodyPost_ret (v:=.agg #[.bool (decide (sg (!b) a<0)),.slice A1 n1 c1]) (by simp[results,Tryz.results181,go_sem,s0,s1]) rfl HR
end
end Go.Proofs.YtpbchbcdgikonaaGreat

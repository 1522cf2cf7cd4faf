/- Lean texts of the claim. -/
import Derived.Test.YtpbchbcdgikonaaGreatQ21
namespace Go.Proofs.YtpbchbcdgikonaaGreat
set_option linter.unusedVariables false
set_option linter.unusedSimpArgs false
set_option maxRecDepth 100000
set_option maxHeartbeats 4000000
open Go.RowKit
section
open Go.RowKit Limb
theorem Af2:(Tryz.prog.info? 270).map (·.size)=some 1:=by kernel_rfl
theorem G3.some_addr {w:World} {p:Addr} {n:Nat} {l:List Nat} (h:G3 w (some p) n l):∀j v,(l.map fun x:Nat=>(.int .u32 (x:Int):Value))[j]? = some v->w.cell? (p.add j)=some v:=by
 intro j v hj;rw[List.getElem?_map] at hj
 have hlt:j<l.length:=by
  rcases Nat.lt_or_ge j l.length with g|g
  ·exact g
  ·rw[List.getElem?_eq_none g] at hj;cases hj
 rw[Lr hlt] at hj;injection hj with hj
 subst hj;obtain⟨b,off,e,hc⟩:=h.at_ (k:=j) (by rw[<-h.1];exact hlt)
 injection e with e
 subst e
 show w.cell? (Addr.add ⟨b,off,none⟩ j)=some (.int .u32 ((gu l j:Nat):Int))
 have e:Addr.add ⟨b,off,none⟩ j=⟨b,off+j,none⟩:=by simp only[Addr.add];split<;>simp_all
 rw[e,hc]
theorem Aj5 {w w0:World} {g n c:Nat} {l:List Nat} {p:Addr} (hB:Mb w g (List.replicate n 0)) (hs:G3 w (some p) n l) (hb:Below w0.heap.size w0 w) (hg:w0.heap.size<=g):∃w',(∀ty,(Builtin.copy_ #[157,157] ty #[.slice (some ⟨g,0,none⟩) n n,.slice (some p) n c]).run Tryz.prog w=.ok (goInt n) w')/\Mb w' g l/\Below w0.heap.size w0 w':=by
 have hl:=hs.1;refine⟨w.setRow g (vU l),fun ty=>?_,setRow_heap w g _ _ _ _ hB,hb.trans ⟨rfl,rfl,rfl,by simp[World.setRow],fun k hk=>setRow_other w g k _ (by omega)⟩⟩
 have hr:=run_copy_row (P:=Tryz.prog) w 157 157 ty 270 g 0 n n p n c (vU (List.replicate n 0)) 270 (l.map fun x:Nat=>(.int .u32 (x:Int):Value)) Tryz.underlying157 Af2 hB (by simp[hl]) hs.some_addr (by simp[vU,hl]) (by intro u hu;simp at hu;obtain⟨x,-,rfl⟩:=hu;rfl)
 rw[hr]
 congr 1
 ·rw[List.length_map,hl]
 ·congr 1
  simp[vU,hl]
theorem Tf (A:Option Addr) (ca na a:Nat) (w:World) (ha:(lmb a).length=na) (hna:na<=100000) (hca:na<=ca) (h0:A=none->ca=0) (hA:G3 w A na (lmb a)) :
 Calls Tryz.prog 208 #[.slice A na ca] w fun e w'=>∃v,e=.returned v/\Cq w' w.heap.size v a/\Below w.heap.size w w':=by
 have ta:trl (lmb a) na=na:=by rw[<-ha];exact Ex a
 have HTA:=Lib.hid ta;have HLA:=Lib.hid ha;obtain⟨Z,hmk,hZ⟩:=Gc na (by omega)
 clear ta ha;go_enter Tryz.func208,Tryz.ntmps208
 go_upto_region 3 with (go_at_call 172;refine(Bv A ca na (lmb a) _ (by omega) hca hA).mono ?_;rintro e w1 ⟨rfl,hb1⟩;rw[HTA.out])
 have hB:=hZ w1;have hbA:=An hb1 (.cells Z 270);have hA1:=(hA.keep hb1).keep (Below.alloc (Below.refl _ _) (Nat.le_refl _) (.cells Z 270));cases A with
 | none =>
   have e0:=h0 rfl;obtain rfl:na=0:=by omega
   subst e0;have hcp:=fun ty=>run_copy_nil (P:=Tryz.prog) (w1.alloc (.cells Z 270)) 157 157 ty 270 ⟨w1.heap.size,0,none⟩ 0 0 Tryz.underlying157 (by rw[Af2];rfl)
   clear hmk
   go_wp2_with (at_builtin;refine Ii rfl _ _ 157 157 rfl rfl rfl hcp ?_)
   go_ret;refine⟨_,rfl,?_,hbA⟩
   obtain rfl:a=0:=by
    have:=Ew a;rw[List.eq_nil_of_length_eq_zero HLA.out] at this;exact this.symm
   have:=hB.natV (base:=w.heap.size) (n:=0) (v:=0) (Hn 0) rfl (by omega) hb1.size rfl
   exact this
 | some p =>
   obtain⟨w',hcp,hB2,hb2⟩:=Aj5 (c:=ca) hB hA1 hbA hb1.size;clear hmk
   go_wp2_with (at_builtin;refine Ii rfl _ _ 157 157 rfl rfl rfl hcp ?_)
   go_ret;refine⟨_,rfl,?_,hb2⟩;have hN:=hB2.natV (base:=w.heap.size) (Jo a) HLA.out (by omega) hb1.size (Ew a)
   rwa [HTA.out] at hN
theorem Tg (A:Option Addr) (ca na a s:Nat) (w:World) (ha:(lmb a).length=na) (hna:na<=100000) (hca:na<=ca) (hA:G3 w A na (lmb a)) (hs:s<=31) :
 Calls Tryz.prog 211 #[.slice A na ca,.int .i64 (s:Int)] w fun e w'=>∃g l,e=.returned (.slice (some ⟨g,0,none⟩) (na+1) (na+1))/\w.heap.size<=g/\g<w'.heap.size/\Mb w' g l/\l.length=na+1/\(∀x∈l,x<BB)/\val l=a*2 ^ s/\Below w.heap.size w w':=by
 obtain⟨Z,hmk0,hZ⟩:=Gc (na+1) (by omega)
 have hmk:∀w,(Instr.makeSlice 157 (.int .i64 ((na:Int)+1)) (.int .i64 ((na:Int)+1))).run Tryz.prog w=.ok (.slice (some ⟨w.heap.size,0,none⟩) (na+1) (na+1)) (w.alloc (.cells Z 270)):=fun w=>by have:=hmk0 w;rwa [Int.natCast_add] at this
 have HLA:=Lib.hid ha;clear hmk0 ha;go_enter Tryz.func211,Tryz.ntmps211;go_upto_region 3 with fail;go_loopw [6,7,8,15] (fun _ _ _ i wr=>∃(k:Nat) (l:List Nat),k<=na/\i=.int .i64 k/\Hid (l.length=na+1/\(∀x∈l,x<BB)/\val l=(a % BB ^ k)*2 ^ s/\l.getD k 0<2 ^ s/\∀j,k<j->l.getD j 0=0)/\Mb wr w.heap.size l/\Below w.heap.size w wr) (fun _ _ _ i _=>na-(intOf i).toNat)
 case atStart=>exact⟨0,_,Nat.zero_le _,rfl,Lib.hid ⟨List.length_replicate,Hn _,by rw[G5,Nat.pow_zero,Nat.mod_one,Nat.zero_mul],by rw[Gi];exact Nat.pow_pos (by decide),fun j _=>Gi _ _⟩,hZ w,An (Below.refl _ _) _⟩
 case round =>
  clear hmk hZ;obtain⟨k,l,hk,rfl,HI,hor,hbr⟩:=hrel;obtain⟨hll,hlt0,hv,hg,hz⟩:=HI.out;have hgl:=hor.lt;by_cases hlt:k<na
  ·obtain⟨b1,o1,rfl,h1⟩:=(hA.keep hbr).at_ hlt
   obtain⟨c1,f1⟩:=hor.cell (k:=k) (by omega)
   obtain⟨c2,f2⟩:=hor.cell (k:=k+1) (by omega)
   have HX:=Dh a k;obtain⟨x,hx⟩:∃x,lim a k=x:=⟨_,rfl⟩
   have hx':gu (lmb a) k=x:=hx;rw[hx'] at h1;rw[hx] at HX;obtain⟨lw0,lw1,lw2⟩:=Agt HX hs;have hsh:=Nat.mod_add_div (x*2 ^ s) BB;obtain⟨lo,hlo⟩:∃lo:Nat,x*2 ^ s % BB=lo:=⟨_,rfl⟩
   obtain⟨hi,hhi⟩:∃hi:Nat,x*2 ^ s / BB=hi:=⟨_,rfl⟩
   obtain⟨m,hm⟩:∃m:Nat,x*2 ^ s=m:=⟨_,rfl⟩
   rw[hlo] at lw0 lw2;rw[hhi] at lw1;rw[hlo,hhi] at hsh;have hs32:2 ^ s<=2147483648:=Nat.pow_le_pow_right (by decide) hs
   have HN:=Lib.hid (Agw (r:=l) (k:=k) (a:=a) (by omega) (hz (k+1) (by omega)) (by rw[hx];exact hsh.symm) hv)
   rw[hm] at hlo hhi hsh;obtain⟨y,hy⟩:∃y,gu l k=y:=⟨_,rfl⟩
   have hy':l.getD k 0=y:=hy;rw[hy] at c1;rw[hy'] at hg;have HN':Hid ((((l.set k (y+lo)).set (k+1) hi).length=na+1)/\(∀x∈(l.set k (y+lo)).set (k+1) hi,x<BB)/\val ((l.set k (y+lo)).set (k+1) hi)=(a % BB ^ (k+1))*2 ^ s/\((l.set k (y+lo)).set (k+1) hi).getD (k+1) 0<2 ^ s/\∀j,k+1<j->((l.set k (y+lo)).set (k+1) hi).getD j 0=0):=Lib.hid ⟨by simp[hll],Hy (Hy hlt0 (by omega)) (by unfold BB;omega),by rw[<-hy'];exact HN.out,by rw[Ek (by rw[List.length_set];omega),if_pos rfl];exact lw1,fun j hj=>by rw[Ek (by rw[List.length_set];omega),if_neg (by omega),Ek (by omega),if_neg (by omega)];exact hz j (by omega)⟩
   have hmb:m<18446744073709551616:=by
    have:x*2 ^ s<=4294967295*2147483648:=Nat.mul_le_mul (by unfold BB at HX;omega) hs32
    omega
   have W1:=Eb (z:=(x:Int)) (by omega) (by unfold BB at HX;omega)
   have P1:(x:Int)*2 ^ s=(m:Int):=by rw[<-hm];simp
   have W2:IntKind.u64.wrap ((x:Int)*2 ^ s)=(m:Int):=by rw[P1];exact Eb (by omega) (by omega)
   have E1:(m:Int) % 4294967296=(lo:Int):=by rw[<-hlo];unfold BB;omega
   have E2:(m:Int) / 4294967296=(hi:Int):=by rw[<-hhi];unfold BB;omega
   have E3:bits .or .u32 (y:Int) (lo:Int)=((y+lo:Nat):Int):=by
    have e:(2:Int) ^ s=((2 ^ s:Nat):Int):=by simp
    rw[bits_join_low .u32 32 (by decide) wraps_u32 s _ _ (by omega) (by rw[e];omega) (by omega) (by omega) (by rw[e];omega) (by unfold BB at lw2;omega)]
    omega
   have E4:(hi:Int) % 4294967296=(hi:Int):=by omega
   have z1:(0:Int)<=(s:Int):=by omega
   have z2:((s:Int)).toNat=s:=by omega
   clear hx hx' HX lw0 lw1 lw2 hsh hlo hhi hm HN HI hll hlt0 hv hg hz hy hy' hmb;go_wp2_with fail;have hor2:=(hor.store k (y+lo)).store (k+1) hi;rw[Int.natCast_add] at hor2;exact⟨⟨k+1,(l.set k (y+lo)).set (k+1) hi,by omega,by go_num,HN',hor2,Bc (Bc hbr (p:=⟨w.heap.size,k,none⟩) (Nat.le_refl _) _) (p:=⟨w.heap.size,k+1,none⟩) (Nat.le_refl _) _⟩,by simp[intOf];omega⟩
  ·obtain rfl:k=na:=by omega
   go_wp2_with fail;go_ret;exact⟨w.heap.size,l,rfl,Nat.le_refl _,hgl,hor,hll,hlt0,by rw[hv,Ga (Nat.le_of_eq HLA.out)],hbr⟩
theorem af (A:Option Addr) (ca na s:Nat) (l:List Nat) (w:World) (hna:na<=100000) (hA:G3 w A na l) (hl:∀x∈l,x<BB) (hs:s<=31) :
 Calls Tryz.prog 213 #[.slice A na ca,.int .i64 (s:Int)] w fun e w'=>∃v,e=.returned v/\Cq w' w.heap.size v (val l / 2 ^ s)/\Below w.heap.size w w':=by
 obtain⟨Z,hmk,hZ⟩:=Gc na (by omega)
 have HL:=Lib.hid hl;have HLA:=Lib.hid hA.1;clear hl;go_enter Tryz.func213,Tryz.ntmps213;go_upto_region 3 with fail;go_loopw [6,7,8,14] (fun _ _ _ i wr=>∃(k:Nat) (r:List Nat),k<=na/\i=.int .i64 k/\Hid (r.length=na/\(∀x∈r,x<BB)/\val r=(val l / 2 ^ s) % BB ^ k/\∀j,k<=j->r.getD j 0=0)/\Mb wr w.heap.size r/\Below w.heap.size w wr) (fun _ _ _ i _=>na-(intOf i).toNat)
 case atStart=>exact⟨0,_,Nat.zero_le _,rfl,Lib.hid ⟨List.length_replicate,Hn _,by rw[G5,Nat.pow_zero,Nat.mod_one],fun j _=>Gi _ _⟩,hZ w,An (Below.refl _ _) _⟩
 case round =>
  clear hmk hZ;obtain⟨k,r,hk,rfl,HI,hor,hbr⟩:=hrel;obtain⟨hll,hlt0,hv,hz⟩:=HI.out;have hgl:=hor.lt;by_cases hlt:k<na
  ·have hA':=hA.keep hbr
   obtain⟨b1,o1,rfl,h1⟩:=hA'.at_ hlt;obtain⟨c1,f1⟩:=hor.cell (k:=k) (by omega)
   have HX:=El HL.out k;have HY:=El HL.out (k+1);have HN:=Lib.hid (Acv HL.out hs (r:=r) (k:=k) (by omega) (hz k (Nat.le_refl _)) hv)
   obtain⟨x,hx⟩:∃x,l.getD k 0=x:=⟨_,rfl⟩
   have hx':gu l k=x:=hx;rw[hx'] at h1;rw[hx] at HX;obtain⟨y,hy⟩:∃y,l.getD (k+1) 0=y:=⟨_,rfl⟩
   have hy':gu l (k+1)=y:=hy;rw[hy] at HY;rw[hx,hy] at HN;obtain⟨q,hq⟩:∃q:Nat,(x+BB*y) / 2 ^ s=q:=⟨_,rfl⟩
   obtain⟨lo,hlo⟩:∃lo:Nat,q % BB=lo:=⟨_,rfl⟩
   rw[hq,hlo] at HN;have hlob:lo<BB:=by rw[<-hlo];exact Nat.mod_lt _ (by decide)
   have HN':Hid ((r.set k lo).length=na/\(∀x∈r.set k lo,x<BB)/\val (r.set k lo)=(val l / 2 ^ s) % BB ^ (k+1)/\∀j,k+1<=j->(r.set k lo).getD j 0=0):=Lib.hid ⟨by simp[hll],Hy hlt0 hlob,HN.out,fun j hj=>by rw[Ek (by omega),if_neg (by omega)];exact hz j (by omega)⟩
   have W1:=Eb (z:=(x:Int)) (by omega) (by unfold BB at HX;omega)
   have W3:=Eb (z:=(y:Int)) (by omega) (by unfold BB at HY;omega)
   have P0:(2:Int) ^ s=((2 ^ s:Nat):Int):=by simp
   have E1:(q:Int) % 4294967296=(lo:Int):=by rw[<-hlo];unfold BB;omega
   have z1:(0:Int)<=(s:Int):=by omega
   by_cases hlk:k+1<na
   ·obtain⟨b2,o2,e2,h2⟩:=hA'.at_ hlk
    injection e2 with e2
    injection e2 with e2 e3
    subst e2 e3;rw[hy'] at h2;have W4:=Eb (z:=(y:Int)*4294967296) (by omega) (by unfold BB at HY;omega)
    have E3:bits .or .u64 (x:Int) ((y:Int)*4294967296)=((x+BB*y:Nat):Int):=by
     unfold BB at *
     rw[bits_join_low .u64 64 (by decide) wraps_u64 32 _ _ (by omega) (by omega) (by omega) (by omega) (by omega) (by omega)]
     omega
    obtain⟨t,ht⟩:∃t:Nat,x+BB*y=t:=⟨_,rfl⟩
    rw[ht] at E3 hq;have E4:Int.fdiv (t:Int) (2 ^ s)=(q:Int):=by rw[Int.fdiv_eq_ediv_of_nonneg _ (by rw[P0];exact Int.natCast_nonneg _),P0,<-hq];rfl
    have E5:(t:Int) / (2 ^ s)=(q:Int):=by rw[P0,<-hq];rfl
    have B1:((k:Int)+1)<(na:Int):=by omega
    have W5:IntKind.u64.wrap (t:Int)=(t:Int):=Eb (by omega) (by rw[<-ht];unfold BB at *;omega)
    clear hx hx' HX hy hy' HY hq hlo hlob HN HI hll hlt0 hv hz ht P0;go_wp2_with fail;exact⟨⟨k+1,r.set k lo,by omega,by go_num,HN',hor.store k lo,Bc hbr (p:=⟨w.heap.size,k,none⟩) (Nat.le_refl _) _⟩,by simp[intOf];omega⟩
   ·have hy0:y=0:=by rw[<-hy,List.getD,List.getElem?_eq_none (by rw[HLA.out];omega)];rfl
    rw[hy0,Nat.mul_zero,Nat.add_zero] at hq;have E4:Int.fdiv (x:Int) (2 ^ s)=(q:Int):=by rw[Int.fdiv_eq_ediv_of_nonneg _ (by rw[P0];exact Int.natCast_nonneg _),P0,<-hq];rfl
    have E5:(x:Int) / (2 ^ s)=(q:Int):=by rw[P0,<-hq];rfl
    have B1:¬((k:Int)+1)<(na:Int):=by omega
    clear hx hx' HX hy hy' HY hq hlo hlob HN HI hll hlt0 hv hz hy0 P0;go_wp2_with fail;exact⟨⟨k+1,r.set k lo,by omega,by go_num,HN',hor.store k lo,Bc hbr (p:=⟨w.heap.size,k,none⟩) (Nat.le_refl _) _⟩,by simp[intOf];omega⟩
  ·obtain rfl:k=na:=by omega
   have hU:=hor.u32s;rw[hll] at hU;have HLT:=Lib.hid hlt0
   have HV:Hid (val r=val l / 2 ^ s):=Lib.hid (by
    rw[hv];have h1:=Sc HL.out;rw[HLA.out] at h1;exact Nat.mod_eq_of_lt (Nat.lt_of_le_of_lt (Nat.div_le_self _ _) h1))
   clear HI hlt0 hv hz
   go_wp2_with (go_at_call 172;refine(Bv _ k k r _ (by omega) (Nat.le_refl _) hU).mono ?_;rintro e w5 ⟨rfl,hb5⟩)
   go_ret;have hN:=(hor.keep hb5).natV (base:=w.heap.size) HLT.out hll (by omega) (Nat.le_refl _) HV.out
   exact⟨_,rfl,hN,Ao hbr hb5⟩
end
namespace Limb
theorem ku {l:List Nat} (hl:∀x∈l,x<BB) {m:Nat} (h:∀j,m<=j->l.getD j 0=0):val l<BB ^ m:=by
 rcases Nat.lt_or_ge m l.length with g|g
 ·have e:=Ik l m (by omega)
  rw[drop_zero h,Nat.mul_zero,Nat.add_zero] at e;rw[e];exact Lg hl (by omega)
 ·exact Nat.lt_of_lt_of_le (Sc hl) (Nat.pow_le_pow_right (by decide) g)
structure DgI (L0:List Nat) (V q i k c o:Nat) (L:List Nat):Prop where
 len:L.length=L0.length
 lt:∀x∈L,x<BB
 cl:c<BB
 ol:o<=1
 hi:∀j,i+k<=j->L.getD j 0=L0.getD j 0
 e:val L+BB ^ i*q*(V % BB ^ k)=val L0+BB ^ (i+k)*(c+o)
theorem DgI.zero {L0:List Nat} (hl:∀x∈L0,x<BB) (V q i:Nat):DgI L0 V q i 0 0 0 L0 :=
 ⟨rfl,hl,by decide,by omega,fun _ _=>rfl,by simp[Nat.mod_one]⟩
theorem DgI.step {L0 L:List Nat} {V q i k c o v o':Nat} (h:DgI L0 V q i k c o L) (hq:q<BB) (hk:i+k<L0.length) (hv:v<BB) (ho:o'<=1) (e:v+(c+q*lim V k) % BB+o=L0.getD (i+k) 0+BB*o') :
 DgI L0 V q i (k+1) ((c+q*lim V k) / BB) o' (L.set (i+k) v):=by
 have hl:=h.len;have hc:=h.cl;have h2:=Dh V k;have h5:q*lim V k<=(BB-1)*(BB-1):=Nat.mul_le_mul (by omega) (by omega)
 refine⟨by rw[List.length_set];exact hl,Hy h.lt hv,?_,ho,fun j hj=>?_,?_⟩
 ·rw[Nat.div_lt_iff_lt_mul (by decide)];unfold BB at *;omega
 ·rw[Ek (by omega),if_neg (by omega)];exact h.hi j (by omega)
 ·rw[<-h.hi (i+k) (Nat.le_refl _)] at e
  have d:=Ajz (u:=L) (j:=i+k) (c:=c) (z:=q*lim V k) (o:=o) (o':=o') (v:=v) (by omega) e
  have e0:=h.e
  have e1:BB ^ i*q*(BB ^ k*lim V k)=BB ^ (i+k)*(q*lim V k):=by
   rw[Nat.pow_add,Nat.mul_assoc,Nat.mul_assoc,Nat.mul_left_comm q]
  rw[Cd,Nat.mul_add,e1,<-Nat.add_assoc i k 1];omega
theorem DgI.small {L0 L:List Nat} {V q i k c o:Nat} (h:DgI L0 V q i k c o L) (hq:q<BB):c+q*lim V k<18446744073709551616:=by
 have hc:=h.cl;have h2:=Dh V k;have h5:q*lim V k<=(BB-1)*(BB-1):=Nat.mul_le_mul (by omega) (by omega)
 unfold BB at *;omega
theorem DgI.top {L0 L:List Nat} {V q i n c o v o':Nat} (h:DgI L0 V q i n c o L) (hV:(lmb V).length=n) (hk:i+n<L0.length) (hv:v<BB) (e:v+c+o=L0.getD (i+n) 0+BB*o') :
 val (L.set (i+n) v)+q*(V*BB ^ i)=val L0+BB ^ (i+n+1)*o':=by
 have hl:=h.len;have e0:=h.e;rw[Ga (a:=V) (k:=n) (by omega)] at e0
 have h1:=Fo (l:=L) (k:=i+n) (x:=v) (by omega)
 rw[h.hi (i+n) (Nat.le_refl _)] at h1;have e2:=congrArg (BB ^ (i+n)*·) e
 simp only[Nat.mul_add,<-Nat.mul_assoc] at e2 e0;rw[Nat.pow_succ];have e3:q*(V*BB ^ i)=BB ^ i*q*V:=by rw[Nat.mul_comm V,<-Nat.mul_assoc,Nat.mul_comm q]
 rw[e3];omega
theorem Ael {L0 L1:List Nat} {V q i n o':Nat} (hl1:∀x∈L1,x<BB) (hz1:∀j,i+n<j->L1.getD j 0=0) (e:val L1+q*(V*BB ^ i)=val L0+BB ^ (i+n+1)*o') (hq1:val L0 / (V*BB ^ i)<=q) (hq2:q<=val L0 / (V*BB ^ i)+1) (hW:0<V*BB ^ i) (ho:o'<=1) :
 (o'=0->q=val L0 / (V*BB ^ i)/\val L1=val L0 % (V*BB ^ i))/\(o'=1->q=val L0 / (V*BB ^ i)+1/\val L1+V*BB ^ i=val L0 % (V*BB ^ i)+BB ^ (i+n+1)):=by
 have hd:=Nat.div_add_mod (val L0) (V*BB ^ i);have hm:=Nat.mod_lt (val L0) hW;have hb:=ku hl1 (m:=i+n+1) (fun j hj=>hz1 j (by omega))
 generalize V*BB ^ i=W at *
 generalize val L0 / W=Q at *
 generalize val L0 % W=R at *
 generalize BB ^ (i+n+1)=B at *
 rw[Nat.mul_comm] at hd;constructor
 ·intro h
  rw[h,Nat.mul_zero,Nat.add_zero] at e
  have:q=Q:=by
   rcases Nat.lt_or_ge Q q with g|g
   ·obtain rfl:q=Q+1:=by omega
    rw[Nat.add_mul,Nat.one_mul] at e;omega
   ·omega
  subst this;exact⟨rfl,by omega⟩
 ·intro h
  rw[h,Nat.mul_one] at e
  have:q=Q+1:=by
   rcases Nat.lt_or_ge Q q with g|g
   ·omega
   ·obtain rfl:q=Q:=by omega
    omega
  subst this;rw[Nat.add_mul,Nat.one_mul] at e;exact⟨rfl,by omega⟩
structure AbI (L1:List Nat) (V i k c:Nat) (L:List Nat):Prop where
 len:L.length=L1.length
 lt:∀x∈L,x<BB
 cl:c<=1
 hi:∀j,i+k<=j->L.getD j 0=L1.getD j 0
 e:val L+BB ^ (i+k)*c=val L1+BB ^ i*(V % BB ^ k)
theorem AbI.zero {L1:List Nat} (hl:∀x∈L1,x<BB) (V i:Nat):AbI L1 V i 0 0 L1 :=
 ⟨rfl,hl,by omega,fun _ _=>rfl,by simp[Nat.mod_one]⟩
theorem AbI.step {L1 L:List Nat} {V i k c s:Nat} (h:AbI L1 V i k c L) (hk:i+k<L1.length) (hs:s=c+(L1.getD (i+k) 0+lim V k)) :
 AbI L1 V i (k+1) (s / BB) (L.set (i+k) (s % BB)):=by
 have hl:=h.len;have hc:=h.cl;have h2:=Dh V k;rw[<-h.hi (i+k) (Nat.le_refl _)] at hs;have h3:=El h.lt (i+k);refine⟨by rw[List.length_set];exact hl,Hy h.lt (Nat.mod_lt _ (by decide)),by unfold BB at *;omega,fun j hj=>?_,?_⟩
 ·rw[Ek (by omega),if_neg (by omega)];exact h.hi j (by omega)
 ·have d:=Aic (r:=L) (j:=i+k) (c:=c) (z:=lim V k) (s:=s) (by omega) (by omega)
  have e0:=h.e;rw[Cd,Nat.mul_add,<-Nat.mul_assoc,<-Nat.pow_add,<-Nat.add_assoc i k 1];omega
theorem Aj7 {Lv Z P c x m hh R W Lw B:Nat} (e0:Lv+P*c=Lw+W) (h1:Z+P*x=Lv+P*m) (h2:P*m+P*B*hh=P*x+P*c) (e1:Lw+W=R+P*B) (hb:Z<P*B) (h4:hh<=1):Z=R:=by
 rcases Nat.eq_zero_or_pos hh with g|g
 ·subst g
  rw[Nat.mul_zero] at h2;omega
 ·obtain rfl:hh=1:=by omega
  rw[Nat.mul_one] at h2;omega
theorem AbI.fin {L1 L:List Nat} {V i n c R:Nat} (h:AbI L1 V i n c L) (hl1:∀x∈L1,x<BB) (hV:(lmb V).length=n) (hk:i+n<L1.length) (hz1:∀j,i+n<j->L1.getD j 0=0) (e1:val L1+V*BB ^ i=R+BB ^ (i+n+1)) :
 val (L.set (i+n) ((L1.getD (i+n) 0+c) % BB))=R/\∀x∈L.set (i+n) ((L1.getD (i+n) 0+c) % BB),x<BB:=by
 have hl:=h.len;have hlt:=Hy (k:=i+n) (x:=(L1.getD (i+n) 0+c) % BB) h.lt (Nat.mod_lt _ (by decide))
 refine⟨?_,hlt⟩;have e0:=h.e;rw[Ga (a:=V) (k:=n) (by omega),Nat.mul_comm (BB ^ i) V] at e0
 have h1:=Fo (l:=L) (k:=i+n) (x:=(L1.getD (i+n) 0+c) % BB) (by omega)
 rw[h.hi (i+n) (Nat.le_refl _)] at h1
 have hz:∀j,i+n+1<=j->(L.set (i+n) ((L1.getD (i+n) 0+c) % BB)).getD j 0=0:=fun j hj=>by
  rw[Ek (by omega),if_neg (by omega),h.hi j (by omega)];exact hz1 j (by omega)
 have hb:=ku hlt hz;have h2:=Ks (BB ^ (i+n)) (L1.getD (i+n) 0+c);have h3:=El hl1 (i+n);have h4:(L1.getD (i+n) 0+c) / BB<=1:=by have:=h.cl;unfold BB at *;omega
 rw[Nat.mul_add (BB ^ (i+n)) (L1.getD (i+n) 0)] at h2;rw[Nat.pow_succ] at e1 hb;exact Aj7 e0 h1 h2 e1 hb h4
end Limb
section
open Go.RowKit Limb
theorem G3.grown {w w':World} {B:Option Addr} {n g:Nat} {l:List Nat} (h:G3 w B n l) (hg:w.grownBy w' (some g)) (hne:∀p,B=some p->p.block≠g):G3 w' B n l:=by
 refine⟨h.1,?_⟩;obtain⟨_,h2⟩:=h;rcases h2 with h2|⟨b,off,rfl,h2⟩
 ·exact .inl h2
 ·have hb:b≠g:=hne _ rfl
  refine .inr ⟨b,off,rfl,fun k hk=>?_⟩
  have c:=h2 k hk;have hlt:=Bj c;rw[<-c];unfold World.cell?;rw[hg.block b hlt (fun e=>hb (by injection e))]
theorem G3.far {w:World} {B:Option Addr} {n:Nat} {l:List Nat} (h:G3 w B n l) {p:Addr} (hne:∀q,B=some q->q.block≠p.block) (u:Value):G3 (w.setCell p u) B n l:=by
 refine⟨h.1,?_⟩;obtain⟨_,h2⟩:=h;rcases h2 with h2|⟨b,off,rfl,h2⟩
 ·exact .inl h2
 ·refine .inr ⟨b,off,rfl,fun k hk=>?_⟩
  rw[<-h2 k hk];unfold World.cell?;rw[Below.heap_setCell w p u b (hne _ rfl)]
theorem Ad5 (w:World) (row:Option Nat):w.grownBy w row:=⟨rfl,rfl,rfl,Nat.le_refl _,fun _ _ _=>rfl⟩
theorem O9 {x a b:Nat} (hx:x<BB) (ha:a<BB) (hb:b<=1):∃(p q:Int) (lo hi:Nat),IntKind.u64.wrap ((x:Int)-(a:Int))=p/\IntKind.u64.wrap (p-(b:Int))=q/\q % 4294967296=(lo:Int)/\q / 9223372036854775808=(hi:Int)/\lo<BB/\hi<=1/\lo+a+b=x+BB*hi:=by
 unfold BB at *
 rw[IntKind.wrap_u64];refine⟨_,_,((((x:Int)-(a:Int)) % 18446744073709551616-(b:Int)) % 18446744073709551616 % 4294967296).toNat,((((x:Int)-(a:Int)) % 18446744073709551616-(b:Int)) % 18446744073709551616 / 9223372036854775808).toNat,rfl,IntKind.wrap_u64 _,?_,?_,?_,?_,?_⟩<;>omega
theorem Tu {w w2 w3:World} {row:Option Nat} (h:w.grownBy w2 row) (h2:Below w2.heap.size w2 w3):w.grownBy w3 row :=
 ⟨h2.os.trans h.os,h2.tape.trans h.tape,h2.output.trans h.output,Nat.le_trans h.size h2.size,fun k hk hne=>(h2.block k (Nat.lt_of_lt_of_le hk h.size)).trans (h.block k hk hne)⟩
theorem ao (g i n V cu cb:Nat) (L:List Nat) (B:Option Addr) (w:World) (h2:2<=n) (hV:(lmb V).length=n) (hN:i+n<L.length) (hN2:L.length<=200000) (hB:G3 w B n (lmb V)) (hne:∀p,B=some p->p.block≠g) (hL:Mb w g L) (hlt:∀x∈L,x<BB) (hz:∀k,i+n<k->L.getD k 0=0) (hH:BB<=2*lim V (n-1)) (hX:val L<V*BB ^ i*BB) (hcu:n+1<=cu) (hcb:n<=cb) :
 Calls Tryz.prog 212 #[.slice (some ⟨g,i,none⟩) (n+1) cu,.slice B n cb] w fun e w'=>∃L',e=.returned (.int .u32 ((val L / (V*BB ^ i):Nat):Int))/\Mb w' g L'/\L'.length=L.length/\(∀x∈L',x<BB)/\val L'=val L % (V*BB ^ i)/\w.grownBy w' (some g):=by
 have HC:=Lib.hid (Al1 hlt (Jo V) hV h2 hN hz hH (by rw[Ew];exact hX))
 rw[Ew] at HC;have HLT:=Lib.hid hlt;have HV:=Lib.hid hV;have HZ:=Lib.hid hz;obtain⟨p,hp⟩:∃p,p+2=n:=⟨n-2,by omega⟩
 obtain⟨n1,hn1⟩:∃n1,n1+1=n:=⟨n-1,by omega⟩
 rw[show i+n-1=i+n1 by omega,show i+n-2=i+p by omega,show n-1=n1 by omega,show n-2=p by omega] at HC
 have HU1:=El hlt (i+n);have HU2:=El hlt (i+n1);have HU3:=El hlt (i+p);have HV1:=El (Jo V) n1;have HV2:=El (Jo V) p;obtain⟨c1,f1⟩:=hL.cell (k:=i+n) (by omega)
 obtain⟨c2,f2⟩:=hL.cell (k:=i+n1) (by omega)
 obtain⟨c3,f3⟩:=hL.cell (k:=i+p) (by omega)
 obtain⟨vb,vo,rfl,c4⟩:=hB.at_ (k:=n1) (by omega)
 obtain⟨vb',vo',e5,c5⟩:=hB.at_ (k:=p) (by omega)
 injection e5 with e5
 injection e5 with e5 e6
 subst e5 e6;obtain⟨u1,hu1⟩:∃x,gu L (i+n)=x:=⟨_,rfl⟩
 obtain⟨u2,hu2⟩:∃x,gu L (i+n1)=x:=⟨_,rfl⟩
 obtain⟨u3,hu3⟩:∃x,gu L (i+p)=x:=⟨_,rfl⟩
 obtain⟨v1,hv1⟩:∃x,gu (lmb V) n1=x:=⟨_,rfl⟩
 obtain⟨v2,hv2⟩:∃x,gu (lmb V) p=x:=⟨_,rfl⟩
 rw[hu1] at c1;rw[hu2] at c2;rw[hu3] at c3;rw[hv1] at c4;rw[hv2] at c5;unfold gu at hu1 hu2 hu3 hv1 hv2;rw[hu1] at HU1;rw[hu2] at HU2;rw[hu3] at HU3;rw[hv1] at HV1;rw[hv2] at HV2;rw[hu1,hu2,hu3,hv1,hv2] at HC;have hH1:0<v1:=by have:=HC.out.hH;unfold BB at this;omega
 obtain⟨T,hT⟩:∃T,u1*BB+u2=T:=⟨_,rfl⟩
 obtain⟨Q,hQ⟩:∃Q,val L / (V*BB ^ i)=Q:=⟨_,rfl⟩
 rw[hT] at HC;have hTb:T<18446744073709551616:=by rw[<-hT];unfold BB at *;omega
 have HQ:=Lib.hid hQ;have W1:=Eb (z:=(u1:Int)) (by omega) (by unfold BB at HU1;omega)
 have W2:=Eb (z:=(u1:Int)*4294967296) (by omega) (by unfold BB at HU1;omega)
 have W3:=Eb (z:=(u2:Int)) (by omega) (by unfold BB at HU2;omega)
 have W4:=Eb (z:=(v1:Int)) (by omega) (by unfold BB at HV1;omega)
 have W5:=Aip HU1 HU2;rw[hT] at W5;have N1:(n:Int)-1=(n1:Int):=by omega
 have N2:(n:Int)-2=(p:Int):=by omega
 have N3:IntKind.i64.wrap ((n:Int)-1)=(n1:Int):=by rw[N1,IntKind.wrap_i64];omega
 have N4:IntKind.i64.wrap ((n:Int)-2)=(p:Int):=by rw[N2,IntKind.wrap_i64];omega
 have N5:IntKind.i64.wrap (n1:Int)=(n1:Int):=by rw[IntKind.wrap_i64];omega
 have N6:IntKind.i64.wrap (p:Int)=(p:Int):=by rw[IntKind.wrap_i64];omega
 have B1:(n:Int)<(n:Int)+1:=by omega
 have B2:(n1:Int)<(n:Int)+1:=by omega
 have B3:(n1:Int)<(n:Int):=by omega
 have B4:(p:Int)<(n:Int):=by omega
 have B5:(p:Int)<(n:Int)+1:=by omega
 have HU3e:=Lib.hid hu3;have HV2e:=Lib.hid hv2;clear hu1 hu2 hu3 hv1 hv2 hT hX hz hH hV hlt;go_enter Tryz.func212,Tryz.ntmps212;go_upto_region 2 with fail;refine Bi w [(⟨g,i+n,none⟩,.int .u32 u1),(⟨g,i+n1,none⟩,.int .u32 u2),(⟨vb,vo+n1,none⟩,.int .u32 v1)] (by kernel_rfl) (by kernel_rfl) ⟨Below.refl _ _,by simp only[List.mem_cons,List.not_mem_nil,forall_eq_or_imp,or_false,forall_eq];go_simp⟩ ?_
 repeat
  apply Cv
  ·rfl
  ·intro w1 hw1
   have hx:=hw1.2;simp only[List.mem_cons,List.not_mem_nil,forall_eq_or_imp,or_false,forall_eq] at hx
   go_simp
   first|rfl
  go_simp
 refine wpQuiet_nil ?_;intro w2 hCw2;have hL2:=hL.keep hCw2.1;have hB2:=hB.keep hCw2.1;have c1':=Aq hCw2.1 c1;have c3':=Aq hCw2.1 c3;have c5':=Aq hCw2.1 c5;have hG2:=Tu (Ad5 w (some g)) hCw2.1;clear hCw2 c1 c2 c3 c4 c5 f1 f2 f3 W1 W2 W3 W5 N3;have HI:=Lib.hid HC.out.start;obtain⟨q0,hq0⟩:∃q,T / v1=q:=⟨_,rfl⟩
 obtain⟨r0,hr0⟩:∃r,T % v1=r:=⟨_,rfl⟩
 rw[hq0,hr0] at HI;have hq0b:q0<=T:=by rw[<-hq0];exact Nat.div_le_self _ _
 have hr0b:r0<v1:=by rw[<-hr0];exact Nat.mod_lt _ hH1
 have E2:(T:Int) / (v1:Int)=(q0:Int):=by rw[<-hq0];rfl
 have E3:(T:Int) % (v1:Int)=(r0:Int):=by rw[<-hr0];rfl
 have E4:Int.tdiv (T:Int) (v1:Int)=(q0:Int):=by rw[Int.tdiv_eq_ediv_of_nonneg (by omega)];exact E2
 have E5:Int.tmod (T:Int) (v1:Int)=(r0:Int):=by rw[Int.tmod_eq_emod_of_nonneg (by omega)];exact E3
 have W6:=Eb (z:=(q0:Int)) (by omega) (by omega)
 have W7:=Eb (z:=(r0:Int)) (by omega) (by unfold BB at HV1;omega)
 have hd0:(v1:Int)≠0:=by omega
 have hd1:¬v1=0:=by omega
 clear hq0 hr0;go_wp2_with fail;refine Bi w2 [] (by kernel_rfl) (by kernel_rfl) ⟨Below.refl _ _,by simp only[List.mem_cons,List.not_mem_nil,forall_eq_or_imp,or_false,forall_eq];go_simp⟩ ?_
 repeat
  apply Cv
  ·rfl
  ·intro w1 hw1
   have hx:=hw1.2;simp only[List.mem_cons,List.not_mem_nil,forall_eq_or_imp,or_false,forall_eq] at hx
   go_simp
   first|rfl
  go_simp
 refine wpQuiet_nil ?_;intro w3 hCw3;have hL3:=hL2.keep hCw3.1;have hB3:=hB2.keep hCw3.1;have hG3:=Tu hG2 hCw3.1;clear E2 E3 E4 E5 W6 W7 hCw3 hL2 hB2 hG2 c1' c3' c5' hd0 hd1;go_wp2_with fail;go_loopw [8,9] (fun q r wr=>∃qn rn:Nat,q=.int .u64 (qn:Int)/\r=.int .u64 (rn:Int)/\qn<=T/\rn<8589934592/\Hid (DigI (val L) (V*BB ^ i) v1 T qn rn)/\Mb wr g L/\G3 wr (some ⟨vb,vo,none⟩) n (lmb V)/\w.grownBy wr (some g)) (fun q _ _=>(intOf q).toNat)
 case atStart=>exact⟨q0,r0,rfl,rfl,hq0b,by unfold BB at HV1;omega,HI,hL3,hB3,hG3⟩
 case round =>
  clear hL3 hB3 hG3 HI hL hB;obtain⟨qn,rn,rfl,rfl,hqT,hrb,HI,hL,hB,hG⟩:=hrel;obtain⟨c3,f3⟩:=hL.cell (k:=i+p) (by omega)
  obtain⟨vb',vo',e5,c5⟩:=hB.at_ (k:=p) (by omega)
  injection e5 with e5
  injection e5 with e5 e6
  subst e5 e6;have g3:gu L (i+p)=u3:=HU3e.out;have g5:gu (lmb V) p=v2:=HV2e.out;rw[g3] at c3;rw[g5] at c5;clear g3 g5 f3;by_cases hcont:rn<BB/\(BB<=qn\/rn*BB+u3<qn*v2)
  ·obtain⟨hr,hq⟩:=hcont
   obtain⟨HS,hq1⟩:=HC.out.step HI.out hr hq;have HS1:=Lib.hid HS;have C1:(rn:Int)<4294967296:=by unfold BB at hr;omega
   have W6:=Eb (z:=(qn:Int)-1) (by omega) (by omega)
   have W7:=Eb (z:=(rn:Int)+(v1:Int)) (by omega) (by unfold BB at HV1 hr;omega)
   by_cases hq2:BB<=qn
   ·have C2:(4294967296:Int)<=(qn:Int):=by unfold BB at hq2;omega
    clear HI HS;go_wp2_with fail;refine Bi wr [] (by kernel_rfl) (by kernel_rfl) ⟨Below.refl _ _,by simp only[List.mem_cons,List.not_mem_nil,forall_eq_or_imp,or_false,forall_eq];go_simp⟩ ?_
    repeat
     first
     | go_big_quiet_skip
     | go_big_quiet_want
       apply Exists.intro;refine And.intro ?_ ?_
       ·intro w1 hw1
        have hx:=hw1.2;simp only[List.mem_cons,List.not_mem_nil,forall_eq_or_imp,or_false,forall_eq] at hx
        go_simp
        first|rfl
       go_simp
       go_big_quiet_on
    refine wpQuiet_nil ?_;intro w4 hCw4;go_wp2_with fail;exact⟨⟨qn-1,rn+v1,by go_num,by go_num,by omega,by unfold BB at HV1 hr;omega,HS1,hL.keep hCw4.1,hB.keep hCw4.1,Tu hG hCw4.1⟩,by simp[intOf];omega⟩
   ·have C2:((4294967296:Int)<=(qn:Int))=False:=by unfold BB at hq2;simp;omega
    have C2b:(4294967296<=qn)=False:=by unfold BB at hq2;simp;omega
    have hq3:qn<4294967296:=by unfold BB at hq2;omega
    obtain⟨m,hm⟩:∃m,qn*v2=m:=⟨_,rfl⟩
    obtain⟨t,ht⟩:∃t,rn*BB+u3=t:=⟨_,rfl⟩
    have hmb:m<=4294967295*4294967295:=by rw[<-hm];exact Nat.mul_le_mul (by omega) (by unfold BB at HV2;omega)
    have hm':(qn:Int)*(v2:Int)=(m:Int):=by rw[<-Int.natCast_mul,hm]
    have P1:=Eb (z:=(v2:Int)) (by omega) (by unfold BB at HV2;omega)
    have P2:IntKind.u64.wrap ((qn:Int)*(v2:Int))=(m:Int):=by rw[hm'];exact Eb (by omega) (by omega)
    have P3:=Eb (z:=(rn:Int)*4294967296) (by omega) (by omega)
    have P4:=Eb (z:=(u3:Int)) (by omega) (by unfold BB at HU3;omega)
    have P5:=Aip hr HU3;rw[ht] at P5;have C3:((t:Int)<(m:Int))=True:=by rw[hm,ht] at hq;simp;omega
    have C3b:(t<m)=True:=by rw[hm,ht] at hq;simp;omega
    clear HI HS hm hm' ht hmb hq;go_wp2_with fail;refine Bi wr [(⟨g,i+p,none⟩,.int .u32 u3),(⟨vb,vo+p,none⟩,.int .u32 v2)] (by kernel_rfl) (by kernel_rfl) ⟨Below.refl _ _,by simp only[List.mem_cons,List.not_mem_nil,forall_eq_or_imp,or_false,forall_eq];go_simp⟩ ?_
    repeat
     first
     | go_big_quiet_skip
     | go_big_quiet_want
       apply Exists.intro;refine And.intro ?_ ?_
       ·intro w1 hw1
        have hx:=hw1.2;simp only[List.mem_cons,List.not_mem_nil,forall_eq_or_imp,or_false,forall_eq] at hx
        go_simp
        first|rfl
       go_simp
       go_big_quiet_on
    refine wpQuiet_nil ?_;intro w4 hCw4;go_wp2_with fail;exact⟨⟨qn-1,rn+v1,by go_num,by go_num,by omega,by unfold BB at HV1 hr;omega,HS1,hL.keep hCw4.1,hB.keep hCw4.1,Tu hG hCw4.1⟩,by simp[intOf];omega⟩
  ·obtain⟨hex,hq1,hq2,hqb⟩:(BB<=rn\/(rn<BB/\qn<BB/\qn*v2<=rn*BB+u3))/\Q<=qn/\qn<=Q+1/\qn<BB:=by
    rw[<-HQ.out];rcases Nat.lt_or_ge rn BB with h|h
    ·have h1:qn<BB:=Nat.lt_of_not_le fun hc=>hcont ⟨h,.inl hc⟩
     have h2:qn*v2<=rn*BB+u3:=Nat.le_of_not_lt fun hc=>hcont ⟨h,.inr hc⟩
     exact⟨.inr ⟨h,h1,h2⟩,HI.out.ge,HC.out.end2 HI.out h1 h2,h1⟩
    ·have e:=HC.out.end1 HI.out h
     exact⟨.inl h,Nat.le_of_eq e.symm,by rw[e];exact Nat.le_succ _,by rw[e];exact HC.out.lt⟩
   clear hcont HI;rcases hex with hr|⟨hr,-,hle⟩
   have C1:((rn:Int)<4294967296)=False:=by unfold BB at hr;simp;omega
   have C1b:(rn<4294967296)=False:=by unfold BB at hr;simp;omega
   go_wp2_with fail;refine Bi wr [] (by kernel_rfl) (by kernel_rfl) ⟨Below.refl _ _,by simp only[List.mem_cons,List.not_mem_nil,forall_eq_or_imp,or_false,forall_eq];go_simp⟩ ?_
   repeat
    first
    | go_big_quiet_skip
    | go_big_quiet_want
      apply Exists.intro;refine And.intro ?_ ?_
      ·intro w1 hw1
       have hx:=hw1.2;simp only[List.mem_cons,List.not_mem_nil,forall_eq_or_imp,or_false,forall_eq] at hx
       go_simp
       first|rfl
      go_simp
      go_big_quiet_on
   refine wpQuiet_nil ?_;intro w4 hCw4;go_wp2_with fail
   rotate_left
   have C1:(rn:Int)<4294967296:=by unfold BB at hr;omega
   have C2:((4294967296:Int)<=(qn:Int))=False:=by unfold BB at hqb;simp;omega
   have C2b:(4294967296<=qn)=False:=by unfold BB at hqb;simp;omega
   obtain⟨m,hm⟩:∃m,qn*v2=m:=⟨_,rfl⟩
   obtain⟨t,ht⟩:∃t,rn*BB+u3=t:=⟨_,rfl⟩
   have hmb:m<=4294967295*4294967295:=by rw[<-hm];exact Nat.mul_le_mul (by unfold BB at hqb;omega) (by unfold BB at HV2;omega)
   have hm':(qn:Int)*(v2:Int)=(m:Int):=by rw[<-Int.natCast_mul,hm]
   have P1:=Eb (z:=(v2:Int)) (by omega) (by unfold BB at HV2;omega)
   have P2:IntKind.u64.wrap ((qn:Int)*(v2:Int))=(m:Int):=by rw[hm'];exact Eb (by omega) (by omega)
   have P3:=Eb (z:=(rn:Int)*4294967296) (by omega) (by omega)
   have P4:=Eb (z:=(u3:Int)) (by omega) (by unfold BB at HU3;omega)
   have P5:=Aip hr HU3;rw[ht] at P5;have C3:((t:Int)<(m:Int))=False:=by rw[hm,ht] at hle;simp;omega
   have C3b:(t<m)=False:=by rw[hm,ht] at hle;simp;omega
   clear hm hm' ht hmb hle;go_wp2_with fail;refine Bi wr [(⟨g,i+p,none⟩,.int .u32 u3),(⟨vb,vo+p,none⟩,.int .u32 v2)] (by kernel_rfl) (by kernel_rfl) ⟨Below.refl _ _,by simp only[List.mem_cons,List.not_mem_nil,forall_eq_or_imp,or_false,forall_eq];go_simp⟩ ?_
   repeat
    first
    | go_big_quiet_skip
    | go_big_quiet_want
      apply Exists.intro;refine And.intro ?_ ?_
      ·intro w1 hw1
       have hx:=hw1.2;simp only[List.mem_cons,List.not_mem_nil,forall_eq_or_imp,or_false,forall_eq] at hx
       go_simp
       first|rfl
      go_simp
      go_big_quiet_on
   refine wpQuiet_nil ?_;intro w4 hCw4;go_wp2_with fail;clear P1 P2 P3 P4 P5 C3 C3b C2 C2b;all_goals
   (have hL4:=hL.keep hCw4.1
    have hB4:=hB.keep hCw4.1;have hG4:=Tu hG hCw4.1;have hDg:=Lib.hid (DgI.zero HLT.out V qn i);have E9:(qn:Int) % 4294967296=(qn:Int):=by unfold BB at hqb;omega
    clear hL hB hG hCw4 c3 c5;go_wp2_with fail;obtain⟨wb,rfl⟩:∃wb:World,wb=wr:=⟨_,rfl⟩
    go_loopw [10,11,12,13,14,78] (fun c o _ _ _ j wr=>∃(k cn b0:Nat) (l:List Nat),k<=n/\j=.int .i64 k/\c=.int .u64 (cn:Int)/\o=.int .u64 (b0:Int)/\Hid (DgI L V qn i k cn b0 l)/\Mb wr g l/\G3 wr (some ⟨vb,vo,none⟩) n (lmb V)/\w.grownBy wr (some g)) (fun _ _ _ _ _ j _=>n-(intOf j).toNat)
    case atStart=>exact⟨0,0,0,L,Nat.zero_le _,rfl,rfl,rfl,hDg,hL4,hB4,hG4⟩
    case round =>
     clear hL4 hB4 hG4 hDg;obtain⟨k,cn,b0,l,hk,rfl,rfl,rfl,HI,hL,hB,hG⟩:=hrel;have hll:=HI.out.len;have hgl:=hL.lt;by_cases hlt:k<n
     ·obtain⟨vb',vo',e5,z1⟩:=hB.at_ hlt
      injection e5 with e5
      injection e5 with e5 e6
      subst e5 e6;obtain⟨z2,f2⟩:=hL.cell (k:=i+k) (by omega)
      have HX:=El HI.out.lt (i+k);have HY:=Dh V k;obtain⟨s,hs⟩:∃s,cn+qn*lim V k=s:=⟨_,rfl⟩
      have hsb:=HI.out.small hqb;obtain⟨P,R,lo,hi,P1,P2,P3,P4,P5,P6,P7⟩:=O9 HX (Nat.mod_lt (cn+qn*lim V k) (by decide:BB > 0)) HI.out.ol
      have HS:=Lib.hid (HI.out.step hqb (by omega) P5 P6 (by rw[<-HI.out.hi (i+k) (Nat.le_refl _)];exact P7))
      rw[hs] at hsb P1 HS;obtain⟨y,hy⟩:∃y,lim V k=y:=⟨_,rfl⟩
      have hy':gu (lmb V) k=y:=hy;obtain⟨x,hx⟩:∃x,l.getD (i+k) 0=x:=⟨_,rfl⟩
      have hx':gu l (i+k)=x:=hx;rw[hy'] at z1;rw[hx'] at z2;rw[hx] at HX P1;rw[hy] at HY hs;obtain⟨m,hm⟩:∃m,qn*y=m:=⟨_,rfl⟩
      rw[hm] at hs;have hm':(qn:Int)*(y:Int)=(m:Int):=by rw[<-Int.natCast_mul,hm]
      obtain⟨lo2,hlo2⟩:∃lo:Nat,s % BB=lo:=⟨_,rfl⟩
      obtain⟨hi2,hhi2⟩:∃hi:Nat,s / BB=hi:=⟨_,rfl⟩
      have hlo2b:lo2<BB:=by rw[<-hlo2];exact Nat.mod_lt _ (by decide)
      rw[hlo2] at P1;rw[hhi2] at HS;have A1:=Eb (z:=(y:Int)) (by omega) (by unfold BB at HY;omega)
      have A2:IntKind.u64.wrap ((qn:Int)*(y:Int))=(m:Int):=by rw[hm'];exact Eb (by omega) (by omega)
      have A3:IntKind.u64.wrap ((cn:Int)+(m:Int))=(s:Int):=by rw[Eb (by omega) (by omega)];omega
      have A4:=Eb (z:=(x:Int)) (by omega) (by unfold BB at HX;omega)
      have A5:(s:Int) % 4294967296=(lo2:Int):=by rw[<-hlo2];unfold BB;omega
      have A6:(s:Int) / 4294967296=(hi2:Int):=by rw[<-hhi2];unfold BB;omega
      have A7:=Eb (z:=(lo2:Int)) (by omega) (by unfold BB at hlo2b;omega)
      have A8:((k:Int))<(n:Int)+1:=by omega
      clear HI hs hsb hy hy' hx hx' HX HY hm hm' hlo2 hhi2 hlo2b P5 P6 P7 hll;go_wp2_with fail;exact⟨⟨k+1,hi2,hi,l.set (i+k) lo,by omega,by go_num,by go_num,by go_num,HS,hL.store (i+k) lo,hB.far (p:=⟨g,i+k,none⟩) hne _,Gb.set hG (i+k) _⟩,by simp[intOf];omega⟩
     ·obtain rfl:k=n:=by omega
      obtain⟨z2,f2⟩:=hL.cell (k:=i+k) (by omega)
      have HX:=El HI.out.lt (i+k);have HCN:=HI.out.cl;obtain⟨P,R,lo,hi,P1,P2,P3,P4,P5,P6,P7⟩:=O9 HX HCN HI.out.ol;have e:=HI.out.top HV.out hN P5 (by rw[<-HI.out.hi (i+k) (Nat.le_refl _)];exact P7)
      have hlt1:∀x∈l.set (i+k) lo,x<BB:=Hy HI.out.lt P5
      have hz1:∀j,i+k<j->(l.set (i+k) lo).getD j 0=0:=fun j hj=>by rw[Ek (by omega),if_neg (by omega),HI.out.hi j (by omega)];exact HZ.out j hj
      have OV:=Ael hlt1 hz1 e (by rw[HQ.out];exact hq1) (by rw[HQ.out];exact hq2) HC.out.pW P6
      have hl1:(l.set (i+k) lo).length=L.length:=by rw[List.length_set];exact hll
      have HLT1:=Lib.hid hlt1;have HZ1:=Lib.hid hz1;have hL1:=hL.store (i+k) lo;have hB1:=hB.far (p:=⟨g,i+k,none⟩) hne (.int .u32 (lo:Int));have hG1:=Gb.set hG (i+k) (.int .u32 (lo:Int));obtain⟨x,hx⟩:∃x,l.getD (i+k) 0=x:=⟨_,rfl⟩
      have hx':gu l (i+k)=x:=hx;rw[hx'] at z2;rw[hx] at HX P1;have A4:=Eb (z:=(x:Int)) (by omega) (by unfold BB at HX;omega)
      have A8:((k:Int))<(k:Int)+1:=by omega
      obtain⟨L1,hL1e⟩:∃L1,l.set (i+k) lo=L1:=⟨_,rfl⟩
      rw[hL1e] at OV hl1 HLT1 HZ1 hL1;clear hlt1 hz1 e hL1e hx hx' HX P5 P7 HI HCN hll hB hG;rcases Nat.eq_zero_or_pos hi with h0|h0
      ·obtain⟨o1,o2⟩:=OV.1 h0
       have O1:=Lib.hid o1;have O2:=Lib.hid o2;rw[h0] at P4;clear OV P6 h0 o1 o2;go_wp2_with fail;go_ret;exact⟨L1,by rw[<-O1.out];rfl,hL1,hl1,HLT1.out,O2.out,hG1⟩
      ·have h1:hi=1:=by omega
       obtain⟨o1,o2⟩:=OV.2 h1;have O1:=Lib.hid o1;have O2:=Lib.hid o2;have HR:=Lib.hid (Nat.mod_lt (val L) HC.out.pW);rw[h1] at P4;have hq1':1<=qn:=by rw[o1];exact Nat.succ_le_succ (Nat.zero_le _)
       have HAb:=Lib.hid (AbI.zero HLT1.out V i);clear OV P6 h0 o1 o2 h1;go_wp2_with fail;obtain⟨wc,rfl⟩:∃wc:World,wc=wr:=⟨_,rfl⟩
       go_loopw [10,16,17,131] (fun c _ _ j wr=>∃(t cn:Nat) (l:List Nat),t<=k/\j=.int .i64 t/\c=.int .u64 (cn:Int)/\Hid (AbI L1 V i t cn l)/\Mb wr g l/\G3 wr (some ⟨vb,vo,none⟩) k (lmb V)/\w.grownBy wr (some g)) (fun _ _ _ j _=>k-(intOf j).toNat)
       case atStart=>exact⟨0,0,L1,Nat.zero_le _,rfl,rfl,HAb,hL1,hB1,hG1⟩
       case round =>
        clear hL1 hB1 hG1 HAb z2 f2 hgl P1 P2 P3 P4 A4;obtain⟨t,cn,l',ht,rfl,rfl,HI,hL,hB,hG⟩:=hrel;have hll:=HI.out.len;have hgl:=hL.lt;have hcn:=HI.out.cl;by_cases hlt:t<k
        ·obtain⟨vb',vo',e5,z1⟩:=hB.at_ hlt
         injection e5 with e5
         injection e5 with e5 e6
         subst e5 e6;obtain⟨z2,f2⟩:=hL.cell (k:=i+t) (by omega)
         have HX:=El HI.out.lt (i+t);have HY:=Dh V t;obtain⟨s,hs⟩:∃s,s=cn+(L1.getD (i+t) 0+lim V t):=⟨_,rfl⟩
         have HS:=Lib.hid (HI.out.step (by omega) hs)
         rw[<-HI.out.hi (i+t) (Nat.le_refl _)] at hs;obtain⟨y,hy⟩:∃y,lim V t=y:=⟨_,rfl⟩
         have hy':gu (lmb V) t=y:=hy;obtain⟨x,hx⟩:∃x,l'.getD (i+t) 0=x:=⟨_,rfl⟩
         have hx':gu l' (i+t)=x:=hx;rw[hy'] at z1;rw[hx'] at z2;rw[hx] at HX hs;rw[hy] at HY hs;obtain⟨lo2,hlo2⟩:∃lo:Nat,s % BB=lo:=⟨_,rfl⟩
         obtain⟨hi2,hhi2⟩:∃hi:Nat,s / BB=hi:=⟨_,rfl⟩
         rw[hlo2,hhi2] at HS;have A1:=Eb (z:=(y:Int)) (by omega) (by unfold BB at HY;omega)
         have A4:=Eb (z:=(x:Int)) (by omega) (by unfold BB at HX;omega)
         have A2:=Eb (z:=(x:Int)+(y:Int)) (by omega) (by unfold BB at HX HY;omega)
         have A3:IntKind.u64.wrap ((cn:Int)+((x:Int)+(y:Int)))=(s:Int):=by rw[Eb (by omega) (by unfold BB at HX HY;omega)];omega
         have A5:(s:Int) % 4294967296=(lo2:Int):=by rw[<-hlo2];unfold BB;omega
         have A6:(s:Int) / 4294967296=(hi2:Int):=by rw[<-hhi2];unfold BB;omega
         have A8:((t:Int))<(k:Int)+1:=by omega
         clear HI hs hy hy' hx hx' HX HY hlo2 hhi2 hll hcn;go_wp2_with fail;exact⟨⟨t+1,hi2,l'.set (i+t) lo2,by omega,by go_num,by go_num,HS,hL.store (i+t) lo2,hB.far (p:=⟨g,i+t,none⟩) hne _,Gb.set hG (i+t) _⟩,by simp[intOf];omega⟩
        ·obtain rfl:t=k:=by omega
         obtain⟨z2,f2⟩:=hL.cell (k:=i+t) (by omega)
         obtain⟨F1,F2⟩:=HI.out.fin HLT1.out HV.out (by omega) HZ1.out O2.out
         have HX:=El HI.out.lt (i+t);rw[<-HI.out.hi (i+t) (Nat.le_refl _)] at F1 F2;obtain⟨x,hx⟩:∃x,l'.getD (i+t) 0=x:=⟨_,rfl⟩
         have hx':gu l' (i+t)=x:=hx;rw[hx'] at z2;rw[hx] at HX F1 F2;obtain⟨lo2,hlo2⟩:∃lo:Nat,(x+cn) % BB=lo:=⟨_,rfl⟩
         rw[hlo2] at F1 F2;have HF1:=Lib.hid F1;have HF2:=Lib.hid F2;have A1:(cn:Int) % 4294967296=(cn:Int):=by omega
         have A2:IntKind.u32.wrap ((x:Int)+(cn:Int))=(lo2:Int):=by rw[IntKind.wrap_u32,<-hlo2];unfold BB;omega
         have A3:((x:Int)+(cn:Int)) % 4294967296=(lo2:Int):=by rw[<-hlo2];unfold BB;omega
         have A8:((t:Int))<(t:Int)+1:=by omega
         have A4:=Eb (z:=(qn:Int)-1) (by omega) (by unfold BB at hqb;omega)
         have A5:((qn:Int)-1) % 4294967296=(qn:Int)-1:=by unfold BB at hqb;omega
         have hl3:(l'.set (i+t) lo2).length=L.length:=by rw[List.length_set];omega
         clear HI hx hx' HX F1 F2 hlo2 hll hcn E9;go_wp2_with fail;go_ret;refine⟨l'.set (i+t) lo2,?_,hL.store (i+t) lo2,hl3,HF2.out,HF1.out,Gb.set hG (i+t) _⟩;have e:=O1.out;rw[show val L / (V*BB ^ i)=qn-1 by omega]
         exact Bh (by omega))
end
end Go.Proofs.YtpbchbcdgikonaaGreat

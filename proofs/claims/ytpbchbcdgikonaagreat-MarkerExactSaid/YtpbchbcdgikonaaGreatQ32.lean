/- Lean texts of the claim. -/
import Derived.Test.YtpbchbcdgikonaaGreatQ31
namespace Go.Proofs.YtpbchbcdgikonaaGreat
set_option linter.unusedVariables false
set_option linter.unusedSimpArgs false
set_option maxRecDepth 100000
set_option maxHeartbeats 4000000
open Go.RowKit
section
open Go.RowKit Limb
theorem iof (n:Int) (w:World) (h1 : -4611686018427387904<=n) (h2:n<=4611686018427387904):Calls Tryz.prog 177 #[.int .i64 n] w (Aat w n):=by
 have HS:=Lib.hid (Qp n)
 have sa:Sm n.natAbs:=H8 (m:=63) (by
  have:(2:Nat) ^ 63=9223372036854775808:=by decide
  rw[this];omega) (by decide)
 have ha:n.natAbs<18446744073709551616:=by omega
 obtain⟨a,hae⟩:∃a,n.natAbs=a:=⟨_,rfl⟩
 rw[hae] at HS sa ha;by_cases hn:n<0
 ·have HN:Hid (sg true a=n):=Lib.hid (by have:=HS.out;rwa [decide_eq_true hn] at this)
  have W1:IntKind.u64.wrap n=n+18446744073709551616:=by rw[IntKind.wrap_u64];omega
  have W2:IntKind.u64.wrap (-(n+18446744073709551616))=(a:Int):=by rw[IntKind.wrap_u64];omega
  have W3:IntKind.u64.wrap (-n)=(a:Int):=by rw[IntKind.wrap_u64];omega
  clear hae HS;go_enter Tryz.func177,Tryz.ntmps177;go_upto_region 2 with fail;refine Ar (fun X=>Below w.heap.size w X/\Bb X w.heap.size 159 #[.bool false,.slice none 0 0]) ⟨An (Below.refl _ _) _,Bb.new _ _ _⟩ ?_
  rintro X ⟨hbX,hR⟩;have hltR:=hR.lt
  go_wp2_with (first
   | (go_at_call 214;have hX1:=hv1;refine(Iv true hv1 sa).mono ?_;rintro e w2 ⟨v2,rfl,h2,hb2⟩;rw[HN.out] at h2;obtain⟨m2,rfl,hm2⟩:=h2;obtain⟨A2,n2,c2,rfl⟩:=hm2.sl;have hbE:=Ao hb1 hb2;obtain⟨r0,r1,f0,f1,lt⟩:=(hR.keep hbE).pair)
   | (go_at_call 170;refine(Qz a _ ha).mono ?_;rintro e w1 ⟨v1,rfl,hv1,hb1⟩))
  obtain⟨s0,s1,HR⟩:=Hr (w:=w) (hR.keep hbE) hm2 (Nat.lt_of_lt_of_le hltR hb1.size) (Nat.le_refl _) (Ao hbX hbE);rw[decide_eq_true hn] at s0 s1 HR;exact bodyPost_ret (v:=.agg #[.bool true,.slice A2 n2 c2]) (by simp[results,Tryz.results177,go_sem,s0,s1]) rfl HR
 ·have HN:Hid (sg false a=n):=Lib.hid (by have:=HS.out;rwa [decide_eq_false hn] at this)
  have W1:IntKind.u64.wrap n=(a:Int):=by rw[IntKind.wrap_u64];omega
  clear hae HS;go_enter Tryz.func177,Tryz.ntmps177;go_upto_region 3 with fail;refine Ar (fun X=>Below w.heap.size w X/\Bb X w.heap.size 159 #[.bool false,.slice none 0 0]) ⟨An (Below.refl _ _) _,Bb.new _ _ _⟩ ?_
  rintro X ⟨hbX,hR⟩;have hltR:=hR.lt
  go_wp2_with (first
   | (go_at_call 214;have hX1:=hv1;refine(Iv false hv1 sa).mono ?_;rintro e w2 ⟨v2,rfl,h2,hb2⟩;rw[HN.out] at h2;obtain⟨m2,rfl,hm2⟩:=h2;obtain⟨A2,n2,c2,rfl⟩:=hm2.sl;have hbE:=Ao hb1 hb2;obtain⟨r0,r1,f0,f1,lt⟩:=(hR.keep hbE).pair)
   | (go_at_call 170;refine(Qz a _ ha).mono ?_;rintro e w1 ⟨v1,rfl,hv1,hb1⟩))
  obtain⟨s0,s1,HR⟩:=Hr (w:=w) (hR.keep hbE) hm2 (Nat.lt_of_lt_of_le hltR hb1.size) (Nat.le_refl _) (Ao hbX hbE);exact bodyPost_ret (v:=.agg #[.bool (decide (n<0)),.slice A2 n2 c2]) (by simp[results,Tryz.results177,go_sem,s0,s1]) rfl HR
theorem rof (n:Int) (w:World) (h1 : -4611686018427387904<=n) (h2:n<=4611686018427387904):Calls Tryz.prog 148 #[.int .i64 n,.int .i64 1] w fun e w'=>∃v,e=.returned (.tuple #[v,.bool true])/\Gr w' w.heap.size v (n:Rat)/\Below w.heap.size w w':=by
 obtain⟨z,hz⟩:∃z:Rat,(n:Rat)=z:=⟨_,rfl⟩
 have EQ:Hid (mkRat (sg (decide (n<0)) n.natAbs) 1=z):=Lib.hid (by rw[Qp,<-hz];exact Rat.mkRat_self (n:Rat))
 have sa:Sm n.natAbs:=H8 (m:=63) (by
  have:(2:Nat) ^ 63=9223372036854775808:=by decide
  rw[this];omega) (by decide)
 have s1':Sm 1:=H8 (m:=1) (by decide) (by decide)
 obtain⟨p,hp⟩:∃p,decide (n<0)=p:=⟨_,rfl⟩
 have HP:=Lib.hid hp;rw[hp] at EQ;rw[hz];clear hz hp;go_enter Tryz.func148,Tryz.ntmps148;go_upto_region 3 with fail;refine Ar (fun X=>Below w.heap.size w X/\Bb X w.heap.size 161 #[.bool false,.slice none 0 0,.slice none 0 0]) ⟨An (Below.refl _ _) _,Bb.new _ _ _⟩ ?_
 rintro X ⟨hbX,hR⟩;have hltR:=hR.lt
 go_upto_region 4 with (first
  | (go_at_call 177;have hX1:=hm1;refine(iof 1 _ (by omega) (by omega)).mono ?_;rintro e w2 ⟨v2,rfl,⟨m2,rfl,hm2⟩,hb2⟩;obtain⟨A2,n2,c2,rfl⟩:=hm2.sl)
  | (go_at_call 177;refine(iof n _ h1 h2).mono ?_;rintro e w1 ⟨v1,rfl,⟨m1,rfl,hm1⟩,hb1⟩;obtain⟨A1,n1,c1,rfl⟩:=hm1.sl;rw[HP.out]))
 have hbE:=Ao hb1 hb2;refine Ar (fun Y=>Below w2.heap.size w2 Y/\Bb Y w2.heap.size 159 #[.bool p,.slice A1 n1 c1]/\Bb Y (w2.heap.size+1) 159 #[.bool false,.slice A2 n2 c2]) ⟨An (An (Below.refl _ _) _) _,Bb.alloc (Bb.new _ _ _) _,Bb.new2 _ _ _ _⟩ ?_
 rintro Y ⟨hbY,hP,hQ⟩;have hbF:=Ao hbE hbY;have hw2:X.heap.size<=w2.heap.size:=hbE.size;obtain⟨a0,a1,a2,a3,a4⟩:=hP.pair;obtain⟨b0,b1,b2,b3,b4⟩:=hQ.pair;have hn0:=hm1.keep hb2;have hd1:Cq w2 w1.heap.size (.slice A2 n2 c2) 1:=hm2;have hltR1:=hltR;cases p<;>go_upto_region 5 with fail
 all_goals refine Ar (fun Z=>Below w2.heap.size w2 Z/\Bb Z w2.heap.size 159 #[.bool _,.slice A1 n1 c1]/\Bb Z (w2.heap.size+1) 159 #[.bool false,.slice A2 n2 c2]) ⟨Bc hbY (p:=⟨w2.heap.size,0,none⟩) (Nat.le_refl _) _,hP.set_ 0 _,hQ.far (p:=⟨w2.heap.size,0,none⟩) (by simp) _⟩ ?_
 all_goals clear hbY hP hQ a0 a1 a2 a3 a4 b0 b1 b2 b3 b4 hbF
 all_goals rintro Z ⟨hbZ,hP,hQ⟩
 all_goals obtain⟨a0,a1,a2,a3,a4⟩:=hP.pair
 all_goals obtain⟨b0,b1,b2,b3,b4⟩:=hQ.pair
 all_goals have hbF:=Ao hbE hbZ
 all_goals go_wp2_with (go_at_call 144;refine(Qr _ (hn0.keep hbZ) (hd1.keep hbZ) sa s1' (by decide)).mono ?_;rintro e w3 ⟨v3,rfl,h3,hb3⟩;rw[EQ.out] at h3;obtain⟨m3,d3,rfl,hm3,hd3⟩:=h3;obtain⟨A3,n3,c3,rfl⟩:=hm3.sl;obtain⟨B3,o3,e3,rfl⟩:=hd3.sl;have hbG:=Ao hbF hb3;obtain⟨r0,r1,r2,f0,f1,f2,lt⟩:=(hR.keep hbG).triple)
 all_goals obtain⟨s0,s1,s2,v9,hv9,HR,HB⟩:=Im (w:=w) (hR.keep hbG) hm3 hd3 (Nat.lt_of_lt_of_le hltR hbF.size) (Nat.le_refl _) (Ao hbX hbG)
 all_goals injection hv9 with hv9
 all_goals exact bodyPost_ret (v:=.tuple #[.agg #[.bool (decide (z.num<0)),.slice A3 n3 c3,.slice B3 o3 e3],.bool true]) (by simp[results,Tryz.results148,go_sem,s0,s1,s2]) rfl ⟨_,rfl,by rw[hv9];exact HR,HB⟩
end
section
open Go.RowKit Limb
def Zj (w:World) (z:Int) (e:Ending) (w':World):Prop:=∃n ok,e=.returned (.tuple #[.int .i64 n,.bool ok])/\(ok=true->n=z)/\(ok=false->9223372036854775808<=z.natAbs)/\Below w.heap.size w w'
theorem Agz {w:World} {ba:Nat} {z:Int} {vz:Value} (hZ:Mq w ba vz z) (sz:Sm z.natAbs):Calls Tryz.prog 149 #[vz] w (Zj w z):=by
 obtain⟨mz,rfl,hz⟩:=hZ;obtain⟨Az,nz,cz,rfl⟩:=hz.sl;have HS:=Lib.hid (Qp z);obtain⟨a,hae⟩:∃a,z.natAbs=a:=⟨_,rfl⟩
 rw[hae] at HS hz sz;have HA:=Lib.hid hae;obtain⟨p,hp⟩:∃p,decide (z<0)=p:=⟨_,rfl⟩
 have HP:=Lib.hid hp;rw[hp] at HS;rw[hp];clear hp hae;go_enter Tryz.func149,Tryz.ntmps149;go_upto_region 1 with fail;refine Ar (fun X=>Below w.heap.size w X/\Bb X w.heap.size 159 #[.bool p,.slice Az nz cz]) ⟨An (Below.refl _ _) _,Bb.new _ _ _⟩ ?_
 rintro X ⟨hbX,hP⟩;obtain⟨p0,p1,-,-,-⟩:=hP.pair
 go_upto_region 2 with (go_at_call 175;refine(Vp p (hz.keep hbX) sz).mono ?_;rintro e w1 ⟨v1,rfl,h1,hb1⟩;rw[HS.out] at h1;obtain⟨m1,rfl,hm1⟩:=h1;obtain⟨A1,n1,c1,rfl⟩:=hm1.sl;rw[HP.out];obtain⟨a0,a1,a2,a3,a4⟩:=(hP.keep hb1).pair)
 have hlt:=hP.lt
 have hm2:Cq ((w1.setCell ⟨w.heap.size,0,none⟩ (.bool p)).setCell ⟨w.heap.size,1,none⟩ (.slice A1 n1 c1)) X.heap.size (.slice A1 n1 c1) a:=by
  rw[HA.out] at hm1;exact(hm1.far (p:=⟨w.heap.size,0,none⟩) hlt _).far (p:=⟨w.heap.size,1,none⟩) hlt _
 refine Ar (fun Y=>Below w.heap.size w Y/\Bb Y w.heap.size 159 #[.bool p,.slice A1 n1 c1]/\Cq Y X.heap.size (.slice A1 n1 c1) a) ⟨Bc (Bc (Ao hbX hb1) (p:=⟨w.heap.size,0,none⟩) (Nat.le_refl _) _) (p:=⟨w.heap.size,1,none⟩) (Nat.le_refl _) _,(hP.keep hb1).set_ 0 _ |>.set_ 1 _,hm2⟩ ?_
 clear hbX hP hm2 a0 a1 a2 a3 a4 hm1 hb1 p0 p1;rintro Y ⟨hbY,hP,hm⟩;obtain⟨p0,p1,-,-,-⟩:=hP.pair;obtain⟨A',c',e',q1,q2,q3,q4,q5⟩:=hm;injection e' with e1 e2 e3
 subst e1 e2 e3;obtain⟨k,hk⟩:∃k,(lmb a).length=k:=⟨_,rfl⟩
 have HK:=Lib.hid hk;rw[hk] at q1 q3 ⊢;rw[hk] at p1;have fin0:Hid (9223372036854775808<=a->Zj w z (.returned (.tuple #[.int .i64 0,.bool false])) Y):=Lib.hid (fun h=>⟨0,false,rfl,(fun h=>by cases h),(fun _=>by rw[HA.out];exact h),hbY⟩)
 by_cases hk2:k<=2
 ·have ha64:a<18446744073709551616:=by
   have:=Tk a;rw[hk] at this;exact Nat.lt_of_lt_of_le this (Nat.le_trans (Nat.pow_le_pow_right (by decide) hk2) (by decide))
  have HA64:=Lib.hid ha64;clear hk hP ha64;go_upto_region 6 with fail;go_loopw [4,5,6,16] (fun n _ _ i wr=>∃(j nn:Nat),j<=k/\i=.int .i64 j/\n=.int .u64 (nn:Int)/\Hid (nn=a % BB ^ j)/\wr=Y) (fun _ _ _ i _=>k-(intOf i).toNat)
  case atStart=>exact⟨0,0,Nat.zero_le _,rfl,rfl,Lib.hid (by simp[Nat.mod_one]),rfl⟩
  case round =>
   obtain⟨j,nn,hj,rfl,rfl,HN,rfl⟩:=hrel;by_cases hjk:j<k
   ·obtain⟨b1,o1,rfl,z1⟩:=q3.at_ hjk
    have HX:=Dh a j;obtain⟨x,hx⟩:∃x,lim a j=x:=⟨_,rfl⟩
    have hx':gu (lmb a) j=x:=hx;rw[hx'] at z1;rw[hx] at HX;unfold BB at HX;have W1:=Eb (z:=(x:Int)) (by omega) (by omega)
    have HXe:=Lib.hid hx
    have hxs:x*BB ^ j<=a:=by
     have e:=Cd a j;rw[hx,Nat.mul_comm (BB ^ j)] at e;exact Nat.le_trans (by rw[e];exact Nat.le_add_left _ _) (Nat.mod_le a (BB ^ (j+1)))
    have hnn:nn<BB ^ j:=by rw[HN.out];exact Nat.mod_lt _ (Nat.pow_pos (by decide))
    have HN2:Hid (nn+x*BB ^ j=a % BB ^ (j+1)):=Lib.hid (by rw[Cd,hx,HN.out,Nat.mul_comm x])
    obtain⟨sh,hsh⟩:∃sh,x*BB ^ j=sh:=⟨_,rfl⟩
    have hdv:sh % BB ^ j=0:=by rw[<-hsh];exact Nat.mul_mod_left _ _
    have hBp:(2:Int) ^ (32*j)=((BB ^ j:Nat):Int):=by rw[Ab5];simp
    have hb64:=HA64.out;rw[hsh] at hxs HN2
    have hE:bits .or .u64 (nn:Int) (sh:Int)=((nn+sh:Nat):Int):=by
     rw[bits_join_low .u64 64 (by decide) wraps_u64 (32*j) (nn:Int) (sh:Int) (by omega) (by rw[hBp];omega) (by have:=Nat.mod_le a (BB ^ j);rw[<-HN.out] at this;omega) (by omega) (by rw[hBp,<-Int.natCast_emod,hdv];rfl) (by omega)]
     omega
    have hW:IntKind.u64.wrap ((x:Int)*2 ^ (32*j))=(sh:Int):=by
     rw[hBp,<-Int.natCast_mul,hsh];exact Eb (by omega) (by omega)
    have hT:(32*(j:Int)).toNat=32*j:=by omega
    have hI:IntKind.i64.wrap (32*(j:Int))=32*(j:Int):=by rw[IntKind.wrap_i64];omega
    have hz0:(0:Int)<=32*(j:Int):=by omega
    clear hx hx' hxs hnn hsh hdv hBp hb64;go_wp2_with fail;exact⟨⟨j+1,nn+sh,by omega,by go_num,by go_num,HN2,trivial⟩,by simp[intOf];omega⟩
   ·obtain rfl:j=k:=by omega
    have hn:nn=a:=by rw[HN.out,Ga (Nat.le_of_eq HK.out)]
    subst hn;have hb64:=HA64.out;have hsg:=HS.out;clear HN hjk hj hk2;cases p with
    | true =>
      have hz:z = -(nn:Int):=by rw[<-hsg];rfl
      by_cases hle:nn<=9223372036854775808
      ·have C1:(nn:Int)<=9223372036854775808:=by omega
       have fin:Hid (Zj w z (.returned (.tuple #[.int .i64 (-(nn:Int)),.bool true])) wr):=Lib.hid ⟨_,true,rfl,(fun _=>hz.symm),(fun h=>by cases h),hbY⟩
       have hpos:0<nn:=by
        have:=HP.out;simp at this;omega
       have D1:IntKind.u64.wrap (-(nn:Int))=18446744073709551616-(nn:Int):=by rw[IntKind.wrap_u64];omega
       have D2:IntKind.i64.wrap (18446744073709551616-(nn:Int)) = -(nn:Int):=by rw[IntKind.wrap_i64];omega
       clear hle hz hsg HS HA HP hb64;go_wp2_with fail
       go_ret2
       exact fin.out
      ·have C1:¬(nn:Int)<=9223372036854775808:=by omega
       have hf:=fin0.out (by omega)
       clear hle hz hsg HS HA HP hb64 fin0;go_wp2_with fail
       go_ret2
       exact hf
    | false =>
      have hz:z=(nn:Int):=by rw[<-hsg];rfl
      by_cases hle:nn<9223372036854775808
      ·have C1:(nn:Int)<9223372036854775808:=by omega
       have fin:Hid (Zj w z (.returned (.tuple #[.int .i64 (nn:Int),.bool true])) wr):=Lib.hid ⟨_,true,rfl,(fun _=>hz.symm),(fun h=>by cases h),hbY⟩
       have D2:IntKind.i64.wrap (nn:Int)=(nn:Int):=by rw[IntKind.wrap_i64];omega
       clear hle hz hsg HS HA HP hb64;go_wp2_with fail
       go_ret2
       exact fin.out
      ·have C1:¬(nn:Int)<9223372036854775808:=by omega
       have hf:=fin0.out (by omega)
       clear hle hz hsg HS HA HP hb64 fin0;go_wp2_with fail
       go_ret2
       exact hf
 ·have hf:=fin0.out (by
   have h2:=Vh (n:=a) (by
    intro e;rw[e,Cs] at hk;simp at hk;omega)
   rw[hk] at h2;have h3:BB ^ 2<=BB ^ (k-1):=Nat.pow_le_pow_right (by decide) (by omega)
   have h4:BB ^ 2=18446744073709551616:=by decide
   omega)
  clear fin0 hk;go_wp2_with fail
  go_ret2
  exact hf
end
section
open Go.RowKit Limb
def PtV (w:World) (base:Nat) (v:Value) (x y:Rat):Prop:=∃m d m' d',v=.agg #[.bool (decide (x.num<0)),m,d,.bool (decide (y.num<0)),m',d']/\Cq w base m x.num.natAbs/\Cq w base d x.den/\Cq w base m' y.num.natAbs/\Cq w base d' y.den
theorem PtV.keep {w w':World} {base:Nat} {v:Value} {x y:Rat} (h:PtV w base v x y) (hb:Below w.heap.size w w'):PtV w' base v x y:=by
 obtain⟨m,d,m',d',e,h1,h2,h3,h4⟩:=h;exact⟨m,d,m',d',e,h1.keep hb,h2.keep hb,h3.keep hb,h4.keep hb⟩
theorem PtV.lower {w:World} {base base':Nat} {v:Value} {x y:Rat} (h:PtV w base v x y) (hb:base'<=base):PtV w base' v x y:=by
 obtain⟨m,d,m',d',e,h1,h2,h3,h4⟩:=h;exact⟨m,d,m',d',e,h1.lower hb,h2.lower hb,h3.lower hb,h4.lower hb⟩
def Ae5 (w:World) (x y:Rat) (e:Ending) (w':World):Prop:=∃v,e=.returned v/\PtV w' w.heap.size v x y/\Below w.heap.size w w'
section
variable {w : World} {g : Nat} {t : TypeId}
theorem cells6 {a b c d e f:Value} (h:Bb w g t #[a,b,c,d,e,f]):w.cell? ⟨g,0,none⟩=some a/\w.cell? ⟨g,1,none⟩=some b/\w.cell? ⟨g,2,none⟩=some c/\w.cell? ⟨g,3,none⟩=some d/\w.cell? ⟨g,4,none⟩=some e/\w.cell? ⟨g,5,none⟩=some f :=
 ⟨(h.cell 0).trans rfl,(h.cell 1).trans rfl,(h.cell 2).trans rfl,(h.cell 3).trans rfl,(h.cell 4).trans rfl,(h.cell 5).trans rfl⟩
theorem Js {g':Nat} {a b c d e f a' b' c' d' e' f':Value} (h:Bb w g t #[a,b,c,d,e,f]) (k:Bb w g' t #[a',b',c',d',e',f']):w.cell? ⟨g,0,none⟩=some a/\w.cell? ⟨g,1,none⟩=some b/\w.cell? ⟨g,2,none⟩=some c/\w.cell? ⟨g,3,none⟩=some d/\w.cell? ⟨g,4,none⟩=some e/\w.cell? ⟨g,5,none⟩=some f/\w.cell? ⟨g',0,none⟩=some a'/\w.cell? ⟨g',1,none⟩=some b'/\w.cell? ⟨g',2,none⟩=some c'/\w.cell? ⟨g',3,none⟩=some d'/\w.cell? ⟨g',4,none⟩=some e'/\w.cell? ⟨g',5,none⟩=some f' :=
 ⟨(h.cell 0).trans rfl,(h.cell 1).trans rfl,(h.cell 2).trans rfl,(h.cell 3).trans rfl,(h.cell 4).trans rfl,(h.cell 5).trans rfl,(k.cell 0).trans rfl,(k.cell 1).trans rfl,(k.cell 2).trans rfl,(k.cell 3).trans rfl,(k.cell 4).trans rfl,(k.cell 5).trans rfl⟩
theorem Mh {cs:Array Value} (h:Bb w g t cs):w.frozen? ⟨g,0,none⟩=false/\w.frozen? ⟨g,1,none⟩=false/\w.frozen? ⟨g,2,none⟩=false/\w.frozen? ⟨g,3,none⟩=false/\w.frozen? ⟨g,4,none⟩=false/\w.frozen? ⟨g,5,none⟩=false/\g<w.heap.size :=
 ⟨h.frozen 0,h.frozen 1,h.frozen 2,h.frozen 3,h.frozen 4,h.frozen 5,h.lt⟩
theorem Bb.set6 {a b c d e f a' b' c' d' e' f':Value} (h:Bb w g t #[a,b,c,d,e,f]):Bb ((((((w.setCell ⟨g,0,none⟩ a').setCell ⟨g,1,none⟩ b').setCell ⟨g,2,none⟩ c').setCell ⟨g,3,none⟩ d').setCell ⟨g,4,none⟩ e').setCell ⟨g,5,none⟩ f') g t #[a',b',c',d',e',f'] :=
 ((((((h.set_ 0 a').set_ 1 b').set_ 2 c').set_ 3 d').set_ 4 e').set_ 5 f')
theorem I6 {a0:World} (hb:Below a0.heap.size a0 w) (hg:a0.heap.size<=g) (a b c d e f:Value):Below a0.heap.size a0 ((((((w.setCell ⟨g,0,none⟩ a).setCell ⟨g,1,none⟩ b).setCell ⟨g,2,none⟩ c).setCell ⟨g,3,none⟩ d).setCell ⟨g,4,none⟩ e).setCell ⟨g,5,none⟩ f) :=
 Bc (Bc (Bc (Ca hb hg a b c) (p:=⟨g,3,none⟩) hg d) (p:=⟨g,4,none⟩) hg e) (p:=⟨g,5,none⟩) hg f
theorem Cq.far6 {base a0:Nat} {v:Value} (h:Cq w base v a0) (hg:g<base) (a b c d e f:Value):Cq ((((((w.setCell ⟨g,0,none⟩ a).setCell ⟨g,1,none⟩ b).setCell ⟨g,2,none⟩ c).setCell ⟨g,3,none⟩ d).setCell ⟨g,4,none⟩ e).setCell ⟨g,5,none⟩ f) base v a0 :=
 (((h.far3 hg a b c).far (p:=⟨g,3,none⟩) hg d).far (p:=⟨g,4,none⟩) hg e).far (p:=⟨g,5,none⟩) hg f
theorem Bb.far6 {k:Nat} {cs:Array Value} (h:Bb w k t cs) (hne:k≠g) (a b c d e f:Value):Bb ((((((w.setCell ⟨g,0,none⟩ a).setCell ⟨g,1,none⟩ b).setCell ⟨g,2,none⟩ c).setCell ⟨g,3,none⟩ d).setCell ⟨g,4,none⟩ e).setCell ⟨g,5,none⟩ f) k t cs :=
 ((((h.far3 hne a b c).far (p:=⟨g,3,none⟩) hne d).far (p:=⟨g,4,none⟩) hne e).far (p:=⟨g,5,none⟩) hne f)
end
theorem No {w w1:World} {g base:Nat} {T:TypeId} {a b c d e f m1 d1 m2 d2:Value} {x y:Rat} (hR:Bb w1 g T #[a,b,c,d,e,f]) (h1:Cq w1 base m1 x.num.natAbs) (h2:Cq w1 base d1 x.den) (h3:Cq w1 base m2 y.num.natAbs) (h4:Cq w1 base d2 y.den) (hg:g<base) (hw:w.heap.size<=g) (hb:Below w.heap.size w w1) (W:World) (hW:W=(((((w1.setCell ⟨g,0,none⟩ (.bool (decide (x.num<0)))).setCell ⟨g,1,none⟩ m1).setCell ⟨g,2,none⟩ d1).setCell ⟨g,3,none⟩ (.bool (decide (y.num<0)))).setCell ⟨g,4,none⟩ m2).setCell ⟨g,5,none⟩ d2) :
 Bb W g T #[.bool (decide (x.num<0)),m1,d1,.bool (decide (y.num<0)),m2,d2]/\Ae5 w x y (.returned (.agg #[.bool (decide (x.num<0)),m1,d1,.bool (decide (y.num<0)),m2,d2])) W:=by
 subst hW;exact⟨hR.set6,_,rfl,⟨m1,d1,m2,d2,rfl,(h1.far6 hg _ _ _ _ _ _).lower (by omega),(h2.far6 hg _ _ _ _ _ _).lower (by omega),(h3.far6 hg _ _ _ _ _ _).lower (by omega),(h4.far6 hg _ _ _ _ _ _).lower (by omega)⟩,I6 hb hw _ _ _ _ _ _⟩
theorem S5 {w:World} {ba bb:Nat} {xx xy yx yy:Rat} {vx vy:Value} (hX:PtV w ba vx xx xy) (hY:PtV w bb vy yx yy) (b1:RB 600 xx) (b2:RB 600 xy) (b3:RB 600 yx) (b4:RB 600 yy):Calls Tryz.prog 80 #[vx,vy] w (Ae5 w (xx-yx) (xy-yy)):=by
 obtain⟨M1,D1,M2,D2,rfl,x1,x2,x3,x4⟩:=hX;obtain⟨M3,D3,M4,D4,rfl,y1,y2,y3,y4⟩:=hY;obtain⟨Aa,na,ca,rfl⟩:=x1.sl;obtain⟨Ab,nb,cb,rfl⟩:=x2.sl;obtain⟨Ac,nc,cc,rfl⟩:=x3.sl;obtain⟨Ad,nd,cd,rfl⟩:=x4.sl;obtain⟨Ae,ne,ce,rfl⟩:=y1.sl;obtain⟨Af,nf,cf,rfl⟩:=y2.sl;obtain⟨Ag,ng,cg,rfl⟩:=y3.sl;obtain⟨Ah,nh,ch,rfl⟩:=y4.sl;obtain⟨p1,hp1⟩:∃p,decide (xx.num<0)=p:=⟨_,rfl⟩
 obtain⟨p2,hp2⟩:∃p,decide (xy.num<0)=p:=⟨_,rfl⟩
 obtain⟨p3,hp3⟩:∃p,decide (yx.num<0)=p:=⟨_,rfl⟩
 obtain⟨p4,hp4⟩:∃p,decide (yy.num<0)=p:=⟨_,rfl⟩
 have H1:Gr w ba (.agg #[.bool p1,.slice Aa na ca,.slice Ab nb cb]) xx:=⟨_,_,by rw[hp1],x1,x2⟩
 have H2:Gr w ba (.agg #[.bool p2,.slice Ac nc cc,.slice Ad nd cd]) xy:=⟨_,_,by rw[hp2],x3,x4⟩
 have H3:Gr w bb (.agg #[.bool p3,.slice Ae ne ce,.slice Af nf cf]) yx:=⟨_,_,by rw[hp3],y1,y2⟩
 have H4:Gr w bb (.agg #[.bool p4,.slice Ag ng cg,.slice Ah nh ch]) yy:=⟨_,_,by rw[hp4],y3,y4⟩
 rw[hp1,hp2,hp3,hp4];clear hp1 hp2 hp3 hp4 x1 x2 x3 x4 y1 y2 y3 y4;obtain⟨zx,hzx⟩:∃z,xx-yx=z:=⟨_,rfl⟩
 obtain⟨zy,hzy⟩:∃z,xy-yy=z:=⟨_,rfl⟩
 have E1:=Lib.hid hzx;have E2:=Lib.hid hzy;rw[hzx,hzy];clear hzx hzy;go_enter Tryz.func80,Tryz.ntmps80;go_upto_region 1 with fail;refine Ar (fun X=>Below w.heap.size w X/\Bb X w.heap.size 163 #[.bool p1,.slice Aa na ca,.slice Ab nb cb,.bool p2,.slice Ac nc cc,.slice Ad nd cd]/\Bb X (w.heap.size+1) 163 #[.bool p3,.slice Ae ne ce,.slice Af nf cf,.bool p4,.slice Ag ng cg,.slice Ah nh ch]/\Bb X (w.heap.size+1+1) 163 #[.bool false,.slice none 0 0,.slice none 0 0,.bool false,.slice none 0 0,.slice none 0 0]) ⟨An (An (An (Below.refl _ _) _) _) _,Bb.alloc (Bb.alloc (Bb.new _ _ _) _) _,Bb.alloc (Bb.new2 _ _ _ _) _,Bb.new3 _ _ _ _ _⟩ ?_
 rintro X ⟨hbX,hP,hQ,hR⟩;have hne02:w.heap.size≠w.heap.size+1+1:=by omega
 have hne12:w.heap.size+1≠w.heap.size+1+1:=by omega
 have hltR:=hR.lt;have hbD:=Aw (Below.refl X.heap.size X);have K1:=(H1.keep hbX).keep hbD;have K2:=(H2.keep hbX).keep hbD;have K3:=(H3.keep hbX).keep hbD;have K4:=(H4.keep hbX).keep hbD
 go_region_held3 (fun w'=>w'.cell? ⟨w.heap.size,0,none⟩=some (.bool p1)/\w'.cell? ⟨w.heap.size,1,none⟩=some (.slice Aa na ca)/\w'.cell? ⟨w.heap.size,2,none⟩=some (.slice Ab nb cb)/\w'.cell? ⟨w.heap.size,3,none⟩=some (.bool p2)/\w'.cell? ⟨w.heap.size,4,none⟩=some (.slice Ac nc cc)/\w'.cell? ⟨w.heap.size,5,none⟩=some (.slice Ad nd cd)/\w'.cell? ⟨w.heap.size+1,0,none⟩=some (.bool p3)/\w'.cell? ⟨w.heap.size+1,1,none⟩=some (.slice Ae ne ce)/\w'.cell? ⟨w.heap.size+1,2,none⟩=some (.slice Af nf cf)/\w'.cell? ⟨w.heap.size+1,3,none⟩=some (.bool p4)/\w'.cell? ⟨w.heap.size+1,4,none⟩=some (.slice Ag ng cg)/\w'.cell? ⟨w.heap.size+1,5,none⟩=some (.slice Ah nh ch))
  (first
   | with_reducible exact Js (hP.keep hbD) (hQ.keep hbD)
   | with_reducible exact Js ((hP.keep hbD).far6 hne02 _ _ _ _ _ _) ((hQ.keep hbD).far6 hne12 _ _ _ _ _ _))
  ((first
    | (go_at_call 117;have hX1:=h1;refine(Ajd (K2.keep hb1) (K4.keep hb1) b2 b4).mono ?_;rintro e w2 ⟨v2,rfl,h2,hb2⟩;rw[E2.out] at h2;obtain⟨m2,d2,rfl,hm2,hd2⟩:=h2;obtain⟨B3,n3,c3,rfl⟩:=hm2.sl;obtain⟨B4,n4,c4,rfl⟩:=hd2.sl;replace hbD:=Ao hbD hb2;obtain⟨r0,r1,r2,r3,r4,r5⟩:=cells6 (hR.keep hbD);obtain⟨f0,f1,f2,f3,f4,f5,flt⟩:=Mh (hR.keep hbD))
    | (go_at_call 117;refine(Ajd K1 K3 b1 b3).mono ?_;rintro e w1 ⟨v1,rfl,h1,hb1⟩;rw[E1.out] at h1;obtain⟨m1,d1,rfl,hm1,hd1⟩:=id h1;obtain⟨B1,n1,c1,rfl⟩:=hm1.sl;obtain⟨B2,n2,c2,rfl⟩:=hd1.sl;replace hbD:=Ao hbD hb1)))
 all_goals go_wp2_with fail
 have hsz:=hb1.size;obtain⟨hZ,HR⟩:=No (w:=w) (hR.keep hbD) (hm1.keep hb2) (hd1.keep hb2) (hm2.lower hsz) (hd2.lower hsz) hltR (by omega) (Ao hbX hbD) _ rfl
 obtain⟨s0,s1,s2,s3,s4,s5⟩:=cells6 hZ;exact bodyPost_ret (v:=.agg #[.bool (decide (zx.num<0)),.slice B1 n1 c1,.slice B2 n2 c2,.bool (decide (zy.num<0)),.slice B3 n3 c3,.slice B4 n4 c4]) (by simp[results,Tryz.results80,go_sem,s0,s1,s2,s3,s4,s5]) rfl HR
theorem Ak7 {w:World} {ba bb:Nat} {xx xy yx yy:Rat} {vx vy:Value} (hX:PtV w ba vx xx xy) (hY:PtV w bb vy yx yy) (b1:RB 600 xx) (b2:RB 600 xy) (b3:RB 600 yx) (b4:RB 600 yy):Calls Tryz.prog 146 #[vx,vy] w (Ae5 w (xx+yx) (xy+yy)):=by
 obtain⟨M1,D1,M2,D2,rfl,x1,x2,x3,x4⟩:=hX;obtain⟨M3,D3,M4,D4,rfl,y1,y2,y3,y4⟩:=hY;obtain⟨Aa,na,ca,rfl⟩:=x1.sl;obtain⟨Ab,nb,cb,rfl⟩:=x2.sl;obtain⟨Ac,nc,cc,rfl⟩:=x3.sl;obtain⟨Ad,nd,cd,rfl⟩:=x4.sl;obtain⟨Ae,ne,ce,rfl⟩:=y1.sl;obtain⟨Af,nf,cf,rfl⟩:=y2.sl;obtain⟨Ag,ng,cg,rfl⟩:=y3.sl;obtain⟨Ah,nh,ch,rfl⟩:=y4.sl;obtain⟨p1,hp1⟩:∃p,decide (xx.num<0)=p:=⟨_,rfl⟩
 obtain⟨p2,hp2⟩:∃p,decide (xy.num<0)=p:=⟨_,rfl⟩
 obtain⟨p3,hp3⟩:∃p,decide (yx.num<0)=p:=⟨_,rfl⟩
 obtain⟨p4,hp4⟩:∃p,decide (yy.num<0)=p:=⟨_,rfl⟩
 have H1:Gr w ba (.agg #[.bool p1,.slice Aa na ca,.slice Ab nb cb]) xx:=⟨_,_,by rw[hp1],x1,x2⟩
 have H2:Gr w ba (.agg #[.bool p2,.slice Ac nc cc,.slice Ad nd cd]) xy:=⟨_,_,by rw[hp2],x3,x4⟩
 have H3:Gr w bb (.agg #[.bool p3,.slice Ae ne ce,.slice Af nf cf]) yx:=⟨_,_,by rw[hp3],y1,y2⟩
 have H4:Gr w bb (.agg #[.bool p4,.slice Ag ng cg,.slice Ah nh ch]) yy:=⟨_,_,by rw[hp4],y3,y4⟩
 rw[hp1,hp2,hp3,hp4];clear hp1 hp2 hp3 hp4 x1 x2 x3 x4 y1 y2 y3 y4;obtain⟨zx,hzx⟩:∃z,xx+yx=z:=⟨_,rfl⟩
 obtain⟨zy,hzy⟩:∃z,xy+yy=z:=⟨_,rfl⟩
 have E1:=Lib.hid hzx;have E2:=Lib.hid hzy;rw[hzx,hzy];clear hzx hzy;go_enter Tryz.func146,Tryz.ntmps146;go_upto_region 1 with fail;refine Ar (fun X=>Below w.heap.size w X/\Bb X w.heap.size 163 #[.bool p1,.slice Aa na ca,.slice Ab nb cb,.bool p2,.slice Ac nc cc,.slice Ad nd cd]/\Bb X (w.heap.size+1) 163 #[.bool p3,.slice Ae ne ce,.slice Af nf cf,.bool p4,.slice Ag ng cg,.slice Ah nh ch]/\Bb X (w.heap.size+1+1) 163 #[.bool false,.slice none 0 0,.slice none 0 0,.bool false,.slice none 0 0,.slice none 0 0]) ⟨An (An (An (Below.refl _ _) _) _) _,Bb.alloc (Bb.alloc (Bb.new _ _ _) _) _,Bb.alloc (Bb.new2 _ _ _ _) _,Bb.new3 _ _ _ _ _⟩ ?_
 rintro X ⟨hbX,hP,hQ,hR⟩;have hne02:w.heap.size≠w.heap.size+1+1:=by omega
 have hne12:w.heap.size+1≠w.heap.size+1+1:=by omega
 have hltR:=hR.lt;have hbD:=Aw (Below.refl X.heap.size X);have K1:=(H1.keep hbX).keep hbD;have K2:=(H2.keep hbX).keep hbD;have K3:=(H3.keep hbX).keep hbD;have K4:=(H4.keep hbX).keep hbD
 go_region_held3 (fun w'=>w'.cell? ⟨w.heap.size,0,none⟩=some (.bool p1)/\w'.cell? ⟨w.heap.size,1,none⟩=some (.slice Aa na ca)/\w'.cell? ⟨w.heap.size,2,none⟩=some (.slice Ab nb cb)/\w'.cell? ⟨w.heap.size,3,none⟩=some (.bool p2)/\w'.cell? ⟨w.heap.size,4,none⟩=some (.slice Ac nc cc)/\w'.cell? ⟨w.heap.size,5,none⟩=some (.slice Ad nd cd)/\w'.cell? ⟨w.heap.size+1,0,none⟩=some (.bool p3)/\w'.cell? ⟨w.heap.size+1,1,none⟩=some (.slice Ae ne ce)/\w'.cell? ⟨w.heap.size+1,2,none⟩=some (.slice Af nf cf)/\w'.cell? ⟨w.heap.size+1,3,none⟩=some (.bool p4)/\w'.cell? ⟨w.heap.size+1,4,none⟩=some (.slice Ag ng cg)/\w'.cell? ⟨w.heap.size+1,5,none⟩=some (.slice Ah nh ch))
  (first
   | with_reducible exact Js (hP.keep hbD) (hQ.keep hbD)
   | with_reducible exact Js ((hP.keep hbD).far6 hne02 _ _ _ _ _ _) ((hQ.keep hbD).far6 hne12 _ _ _ _ _ _))
  ((first
    | (go_at_call 151;have hX1:=h1;refine(Aje (K2.keep hb1) (K4.keep hb1) b2 b4).mono ?_;rintro e w2 ⟨v2,rfl,h2,hb2⟩;rw[E2.out] at h2;obtain⟨m2,d2,rfl,hm2,hd2⟩:=h2;obtain⟨B3,n3,c3,rfl⟩:=hm2.sl;obtain⟨B4,n4,c4,rfl⟩:=hd2.sl;replace hbD:=Ao hbD hb2;obtain⟨r0,r1,r2,r3,r4,r5⟩:=cells6 (hR.keep hbD);obtain⟨f0,f1,f2,f3,f4,f5,flt⟩:=Mh (hR.keep hbD))
    | (go_at_call 151;refine(Aje K1 K3 b1 b3).mono ?_;rintro e w1 ⟨v1,rfl,h1,hb1⟩;rw[E1.out] at h1;obtain⟨m1,d1,rfl,hm1,hd1⟩:=id h1;obtain⟨B1,n1,c1,rfl⟩:=hm1.sl;obtain⟨B2,n2,c2,rfl⟩:=hd1.sl;replace hbD:=Ao hbD hb1)))
 all_goals go_wp2_with fail
 have hsz:=hb1.size;obtain⟨hZ,HR⟩:=No (w:=w) (hR.keep hbD) (hm1.keep hb2) (hd1.keep hb2) (hm2.lower hsz) (hd2.lower hsz) hltR (by omega) (Ao hbX hbD) _ rfl
 obtain⟨s0,s1,s2,s3,s4,s5⟩:=cells6 hZ;exact bodyPost_ret (v:=.agg #[.bool (decide (zx.num<0)),.slice B1 n1 c1,.slice B2 n2 c2,.bool (decide (zy.num<0)),.slice B3 n3 c3,.slice B4 n4 c4]) (by simp[results,Tryz.results146,go_sem,s0,s1,s2,s3,s4,s5]) rfl HR
end
section
open Go.RowKit Limb
theorem Ago {w:World} {g g':Nat} {t t':TypeId} {a b c d e f a' b' c':Value} (h:Bb w g t #[a,b,c,d,e,f]) (k:Bb w g' t' #[a',b',c']):w.cell? ⟨g,0,none⟩=some a/\w.cell? ⟨g,1,none⟩=some b/\w.cell? ⟨g,2,none⟩=some c/\w.cell? ⟨g,3,none⟩=some d/\w.cell? ⟨g,4,none⟩=some e/\w.cell? ⟨g,5,none⟩=some f/\w.cell? ⟨g',0,none⟩=some a'/\w.cell? ⟨g',1,none⟩=some b'/\w.cell? ⟨g',2,none⟩=some c' :=
 ⟨(h.cell 0).trans rfl,(h.cell 1).trans rfl,(h.cell 2).trans rfl,(h.cell 3).trans rfl,(h.cell 4).trans rfl,(h.cell 5).trans rfl,(k.cell 0).trans rfl,(k.cell 1).trans rfl,(k.cell 2).trans rfl⟩
theorem Agg {w:World} {ba bb:Nat} {xx xy t:Rat} {vx vt:Value} (hX:PtV w ba vx xx xy) (hT:Gr w bb vt t) (b1:RB 600 xx) (b2:RB 600 xy) (b3:RB 600 t):Calls Tryz.prog 147 #[vx,vt] w (Ae5 w (xx*t) (xy*t)):=by
 obtain⟨M1,D1,M2,D2,rfl,x1,x2,x3,x4⟩:=hX;obtain⟨M3,D3,rfl,y1,y2⟩:=hT;obtain⟨Aa,na,ca,rfl⟩:=x1.sl;obtain⟨Ab,nb,cb,rfl⟩:=x2.sl;obtain⟨Ac,nc,cc,rfl⟩:=x3.sl;obtain⟨Ad,nd,cd,rfl⟩:=x4.sl;obtain⟨Ae,ne,ce,rfl⟩:=y1.sl;obtain⟨Af,nf,cf,rfl⟩:=y2.sl;obtain⟨p1,hp1⟩:∃p,decide (xx.num<0)=p:=⟨_,rfl⟩
 obtain⟨p2,hp2⟩:∃p,decide (xy.num<0)=p:=⟨_,rfl⟩
 obtain⟨p3,hp3⟩:∃p,decide (t.num<0)=p:=⟨_,rfl⟩
 have H1:Gr w ba (.agg #[.bool p1,.slice Aa na ca,.slice Ab nb cb]) xx:=⟨_,_,by rw[hp1],x1,x2⟩
 have H2:Gr w ba (.agg #[.bool p2,.slice Ac nc cc,.slice Ad nd cd]) xy:=⟨_,_,by rw[hp2],x3,x4⟩
 have H3:Gr w bb (.agg #[.bool p3,.slice Ae ne ce,.slice Af nf cf]) t:=⟨_,_,by rw[hp3],y1,y2⟩
 rw[hp1,hp2,hp3];clear hp1 hp2 hp3 x1 x2 x3 x4 y1 y2;obtain⟨zx,hzx⟩:∃z,xx*t=z:=⟨_,rfl⟩
 obtain⟨zy,hzy⟩:∃z,xy*t=z:=⟨_,rfl⟩
 have E1:=Lib.hid hzx;have E2:=Lib.hid hzy;rw[hzx,hzy];clear hzx hzy;go_enter Tryz.func147,Tryz.ntmps147;go_upto_region 1 with fail;refine Ar (fun X=>Below w.heap.size w X/\Bb X w.heap.size 163 #[.bool p1,.slice Aa na ca,.slice Ab nb cb,.bool p2,.slice Ac nc cc,.slice Ad nd cd]/\Bb X (w.heap.size+1) 161 #[.bool p3,.slice Ae ne ce,.slice Af nf cf]/\Bb X (w.heap.size+1+1) 163 #[.bool false,.slice none 0 0,.slice none 0 0,.bool false,.slice none 0 0,.slice none 0 0]) ⟨An (An (An (Below.refl _ _) _) _) _,Bb.alloc (Bb.alloc (Bb.new _ _ _) _) _,Bb.alloc (Bb.new2 _ _ _ _) _,Bb.new3 _ _ _ _ _⟩ ?_
 rintro X ⟨hbX,hP,hQ,hR⟩;have hne02:w.heap.size≠w.heap.size+1+1:=by omega
 have hne12:w.heap.size+1≠w.heap.size+1+1:=by omega
 have hltR:=hR.lt;have hbD:=Aw (Below.refl X.heap.size X);have K1:=(H1.keep hbX).keep hbD;have K2:=(H2.keep hbX).keep hbD;have K3:=(H3.keep hbX).keep hbD
 go_region_held3 (fun w'=>w'.cell? ⟨w.heap.size,0,none⟩=some (.bool p1)/\w'.cell? ⟨w.heap.size,1,none⟩=some (.slice Aa na ca)/\w'.cell? ⟨w.heap.size,2,none⟩=some (.slice Ab nb cb)/\w'.cell? ⟨w.heap.size,3,none⟩=some (.bool p2)/\w'.cell? ⟨w.heap.size,4,none⟩=some (.slice Ac nc cc)/\w'.cell? ⟨w.heap.size,5,none⟩=some (.slice Ad nd cd)/\w'.cell? ⟨w.heap.size+1,0,none⟩=some (.bool p3)/\w'.cell? ⟨w.heap.size+1,1,none⟩=some (.slice Ae ne ce)/\w'.cell? ⟨w.heap.size+1,2,none⟩=some (.slice Af nf cf))
  (first
   | with_reducible exact Ago (hP.keep hbD) (hQ.keep hbD)
   | with_reducible exact Ago ((hP.keep hbD).far6 hne02 _ _ _ _ _ _) ((hQ.keep hbD).far6 hne12 _ _ _ _ _ _))
  ((first
    | (go_at_call 145;have hX1:=h1;refine(Ain (K2.keep hb1) (K3.keep hb1) b2 b3).mono ?_;rintro e w2 ⟨v2,rfl,h2,hb2⟩;rw[E2.out] at h2;obtain⟨m2,d2,rfl,hm2,hd2⟩:=h2;obtain⟨B3,n3,c3,rfl⟩:=hm2.sl;obtain⟨B4,n4,c4,rfl⟩:=hd2.sl;replace hbD:=Ao hbD hb2;obtain⟨r0,r1,r2,r3,r4,r5⟩:=cells6 (hR.keep hbD);obtain⟨f0,f1,f2,f3,f4,f5,flt⟩:=Mh (hR.keep hbD))
    | (go_at_call 145;refine(Ain K1 K3 b1 b3).mono ?_;rintro e w1 ⟨v1,rfl,h1,hb1⟩;rw[E1.out] at h1;obtain⟨m1,d1,rfl,hm1,hd1⟩:=id h1;obtain⟨B1,n1,c1,rfl⟩:=hm1.sl;obtain⟨B2,n2,c2,rfl⟩:=hd1.sl;replace hbD:=Ao hbD hb1)))
 all_goals go_wp2_with fail
 have hsz:=hb1.size;obtain⟨hZ,HR⟩:=No (w:=w) (hR.keep hbD) (hm1.keep hb2) (hd1.keep hb2) (hm2.lower hsz) (hd2.lower hsz) hltR (by omega) (Ao hbX hbD) _ rfl
 obtain⟨s0,s1,s2,s3,s4,s5⟩:=cells6 hZ;exact bodyPost_ret (v:=.agg #[.bool (decide (zx.num<0)),.slice B1 n1 c1,.slice B2 n2 c2,.bool (decide (zy.num<0)),.slice B3 n3 c3,.slice B4 n4 c4]) (by simp[results,Tryz.results147,go_sem,s0,s1,s2,s3,s4,s5]) rfl HR
theorem Me {w:World} {ba bb:Nat} {xx xy yx yy:Rat} {vx vy:Value} (hX:PtV w ba vx xx xy) (hY:PtV w bb vy yx yy) (b1:RB 300 xx) (b2:RB 300 xy) (b3:RB 300 yx) (b4:RB 300 yy):Calls Tryz.prog 113 #[vx,vy] w (Ab9 w (xx*yy-xy*yx)):=by
 obtain⟨M1,D1,M2,D2,rfl,x1,x2,x3,x4⟩:=hX;obtain⟨M3,D3,M4,D4,rfl,y1,y2,y3,y4⟩:=hY;obtain⟨Aa,na,ca,rfl⟩:=x1.sl;obtain⟨Ab,nb,cb,rfl⟩:=x2.sl;obtain⟨Ac,nc,cc,rfl⟩:=x3.sl;obtain⟨Ad,nd,cd,rfl⟩:=x4.sl;obtain⟨Ae,ne,ce,rfl⟩:=y1.sl;obtain⟨Af,nf,cf,rfl⟩:=y2.sl;obtain⟨Ag,ng,cg,rfl⟩:=y3.sl;obtain⟨Ah,nh,ch,rfl⟩:=y4.sl;obtain⟨p1,hp1⟩:∃p,decide (xx.num<0)=p:=⟨_,rfl⟩
 obtain⟨p2,hp2⟩:∃p,decide (xy.num<0)=p:=⟨_,rfl⟩
 obtain⟨p3,hp3⟩:∃p,decide (yx.num<0)=p:=⟨_,rfl⟩
 obtain⟨p4,hp4⟩:∃p,decide (yy.num<0)=p:=⟨_,rfl⟩
 have H1:Gr w ba (.agg #[.bool p1,.slice Aa na ca,.slice Ab nb cb]) xx:=⟨_,_,by rw[hp1],x1,x2⟩
 have H2:Gr w ba (.agg #[.bool p2,.slice Ac nc cc,.slice Ad nd cd]) xy:=⟨_,_,by rw[hp2],x3,x4⟩
 have H3:Gr w bb (.agg #[.bool p3,.slice Ae ne ce,.slice Af nf cf]) yx:=⟨_,_,by rw[hp3],y1,y2⟩
 have H4:Gr w bb (.agg #[.bool p4,.slice Ag ng cg,.slice Ah nh ch]) yy:=⟨_,_,by rw[hp4],y3,y4⟩
 rw[hp1,hp2,hp3,hp4];clear hp1 hp2 hp3 hp4 x1 x2 x3 x4 y1 y2 y3 y4;have bm1:RB 600 (xx*yy):=RB.mul b1 b4;have bm2:RB 600 (xy*yx):=RB.mul b2 b3;obtain⟨z,hz⟩:∃z,xx*yy-xy*yx=z:=⟨_,rfl⟩
 have E1:=Lib.hid hz;rw[hz];clear hz;have b1':RB 600 xx:=b1.le (by decide)
 have b2':RB 600 xy:=b2.le (by decide)
 have b3':RB 600 yx:=b3.le (by decide)
 have b4':RB 600 yy:=b4.le (by decide)
 go_enter Tryz.func113,Tryz.ntmps113;go_upto_region 1 with fail;refine Ar (fun X=>Below w.heap.size w X/\Bb X w.heap.size 163 #[.bool p1,.slice Aa na ca,.slice Ab nb cb,.bool p2,.slice Ac nc cc,.slice Ad nd cd]/\Bb X (w.heap.size+1) 163 #[.bool p3,.slice Ae ne ce,.slice Af nf cf,.bool p4,.slice Ag ng cg,.slice Ah nh ch]/\Bb X (w.heap.size+1+1) 161 #[.bool false,.slice none 0 0,.slice none 0 0]) ⟨An (An (An (Below.refl _ _) _) _) _,Bb.alloc (Bb.alloc (Bb.new _ _ _) _) _,Bb.alloc (Bb.new2 _ _ _ _) _,Bb.new3 _ _ _ _ _⟩ ?_
 rintro X ⟨hbX,hP,hQ,hR⟩;have hne02:w.heap.size≠w.heap.size+1+1:=by omega
 have hne12:w.heap.size+1≠w.heap.size+1+1:=by omega
 have hltR:=hR.lt;have hbD:=Aw (Below.refl X.heap.size X);have K1:=(H1.keep hbX).keep hbD;have K2:=(H2.keep hbX).keep hbD;have K3:=(H3.keep hbX).keep hbD;have K4:=(H4.keep hbX).keep hbD
 go_region_held3 (fun w'=>w'.cell? ⟨w.heap.size,0,none⟩=some (.bool p1)/\w'.cell? ⟨w.heap.size,1,none⟩=some (.slice Aa na ca)/\w'.cell? ⟨w.heap.size,2,none⟩=some (.slice Ab nb cb)/\w'.cell? ⟨w.heap.size,3,none⟩=some (.bool p2)/\w'.cell? ⟨w.heap.size,4,none⟩=some (.slice Ac nc cc)/\w'.cell? ⟨w.heap.size,5,none⟩=some (.slice Ad nd cd)/\w'.cell? ⟨w.heap.size+1,0,none⟩=some (.bool p3)/\w'.cell? ⟨w.heap.size+1,1,none⟩=some (.slice Ae ne ce)/\w'.cell? ⟨w.heap.size+1,2,none⟩=some (.slice Af nf cf)/\w'.cell? ⟨w.heap.size+1,3,none⟩=some (.bool p4)/\w'.cell? ⟨w.heap.size+1,4,none⟩=some (.slice Ag ng cg)/\w'.cell? ⟨w.heap.size+1,5,none⟩=some (.slice Ah nh ch))
  (first
   | with_reducible exact Js (hP.keep hbD) (hQ.keep hbD)
   | with_reducible exact Js ((hP.keep hbD).far3 hne02 _ _ _) ((hQ.keep hbD).far3 hne12 _ _ _))
  ((first
    | (go_at_call 117;have hX1:=h2;refine(Ajd (h1.keep hb2) h2 bm1 bm2).mono ?_;rintro e w3 ⟨v3,rfl,h3,hb3⟩;rw[E1.out] at h3;obtain⟨m3,d3,rfl,hm3,hd3⟩:=h3;obtain⟨B3,n3,c3,rfl⟩:=hm3.sl;obtain⟨B4,n4,c4,rfl⟩:=hd3.sl;replace hbD:=Ao hbD hb3;obtain⟨r0,r1,r2,f0,f1,f2,lt⟩:=(hR.keep hbD).triple)
    | (go_at_call 145;have hX1:=h1;refine(Ain (K2.keep hb1) (K3.keep hb1) b2' b3').mono ?_;rintro e w2 ⟨v2,rfl,h2,hb2⟩;replace hbD:=Ao hbD hb2)
    | (go_at_call 145;refine(Ain K1 K4 b1' b4').mono ?_;rintro e w1 ⟨v1,rfl,h1,hb1⟩;replace hbD:=Ao hbD hb1)))
 all_goals go_wp2_with fail
 obtain⟨s0,s1,s2,HR⟩:=Im (w:=w) (hR.keep hbD) hm3 hd3 (Nat.lt_of_lt_of_le hltR (Ao (Ao (Aw (Below.refl X.heap.size X)) hb1) hb2).size) (by omega) (Ao hbX hbD)
 exact bodyPost_ret (v:=.agg #[.bool (decide (z.num<0)),.slice B3 n3 c3,.slice B4 n4 c4]) (by simp[results,Tryz.results113,go_sem,s0,s1,s2]) rfl HR
end
end Go.Proofs.YtpbchbcdgikonaaGreat

/- Lean texts of the claim. -/
import Derived.Test.YtpbchbcdgikonaaGreatQ27
import Derived.Test.YtpbchbcdgikonaaGreatQ26
import Derived.Deep.CutBlock
namespace Go.Proofs.YtpbchbcdgikonaaGreat
set_option linter.unusedVariables false
set_option linter.unusedSimpArgs false
set_option maxRecDepth 100000
set_option maxHeartbeats 4000000
open Go.RowKit
def Ae8 (w:World) (e:Ending) (w':World):Prop:=∃q r:Int,e=.returned (.tuple #[.int .u64 q,.int .u64 r])/\Below w.heap.size w w'
theorem ze (l y:Nat) (w:World) (hl:l<18446744073709551616) (hy:0<y) (hy2:y<=1099511627776) :
 Calls Tryz.prog 205 #[.int .u64 0,.int .u64 (l:Int),.int .u64 (y:Int)] w (Ae8 w):=by
 obtain⟨q,hq⟩:∃q,l / y=q:=⟨_,rfl⟩
 obtain⟨r,hr⟩:∃q,l % y=q:=⟨_,rfl⟩
 have hq2:q<=l:=by rw[<-hq];exact Nat.div_le_self _ _
 have hr2:r<y:=by rw[<-hr];exact Nat.mod_lt _ hy
 have T1:Int.tdiv (l:Int) (y:Int)=(q:Int):=by rw[<-hq,Int.tdiv_eq_ediv_of_nonneg (by omega)];rfl
 have T2:Int.tmod (l:Int) (y:Int)=(r:Int):=by rw[<-hr,Int.ofNat_tmod]
 have T3:(l:Int) / (y:Int)=(q:Int):=by rw[<-hq];rfl
 have T4:(l:Int) % (y:Int)=(r:Int):=by rw[<-hr];rfl
 have W1:IntKind.u64.wrap (q:Int)=q:=Eb (by omega) (by omega)
 have W2:IntKind.u64.wrap (r:Int)=r:=Eb (by omega) (by omega)
 have B1:((y:Int) == 0)=false:=Ah8 hy;have B2:¬(y:Int)=0:=by omega
 have B3:¬y=0:=by omega
 have B4:¬(y:Int)<=0:=by omega
 clear hq hr;go_enter Tryz.func205,Tryz.ntmps205;go_upto_region 6 with fail
 go_quiet (fail)
 clear W1 W2 T1 T2 T3 T4;go_wp2_with fail
 go_ret2
 exact⟨_,_,rfl,Bg (Below.refl _ _) _⟩
def dvm (v:Value):Nat:=if intOf v<4294967296 then (4294967296-intOf v).toNat else 4294967297
theorem ph {b V:Int} (hb:0<=b) (hV:2147483648<=V) (hV2:V<4294967296) (h:IntKind.u64.wrap (b+V)<4294967296):dvm (.int .u64 (IntKind.u64.wrap (b+V)))<dvm (.int .u64 b):=by
 have e1:dvm (.int .u64 (IntKind.u64.wrap (b+V)))=(4294967296-IntKind.u64.wrap (b+V)).toNat:=by unfold dvm;rw[if_pos (show intOf (.int .u64 (IntKind.u64.wrap (b+V)))<4294967296 from h)];rfl
 rw[e1];rw[IntKind.wrap_u64] at *
 by_cases hb2:b<4294967296
 ·have e2:dvm (.int .u64 b)=(4294967296-b).toNat:=by unfold dvm;rw[if_pos (show intOf (.int .u64 b)<4294967296 from hb2)];rfl
  rw[e2];omega
 ·have e2:dvm (.int .u64 b)=4294967297:=by unfold dvm;rw[if_neg (show ¬intOf (.int .u64 b)<4294967296 from hb2)]
  rw[e2];omega
theorem Gs (z:Int):0<=IntKind.u64.wrap z/\IntKind.u64.wrap z<18446744073709551616:=by rw[IntKind.wrap_u64];omega
theorem zd (h l y:Nat) (w:World) (hh:0<h) (hhy:h<y) (hl:l<18446744073709551616) (hy2:y<=1099511627776) :
 Calls Tryz.prog 205 #[.int .u64 (h:Int),.int .u64 (l:Int),.int .u64 (y:Int)] w (Ae8 w):=by
 obtain⟨b1,b2,b3⟩:1<=Lib.bitLen y/\2 ^ (Lib.bitLen y-1)<=y/\y<2 ^ Lib.bitLen y:=Lib.bitLenAux_bounds 64 y (by have e:(2:Nat) ^ 64=18446744073709551616:=(by decide);omega) (by omega)
 obtain⟨L,hL⟩:∃L,Lib.bitLen y=L:=⟨_,rfl⟩
 rw[hL] at b1 b2 b3
 have hL41:L<=41:=by
  apply Classical.byContradiction;intro hc;have:2 ^ 41<=2 ^ (L-1):=Nat.pow_le_pow_right (by decide) (by omega)
  have e:(2:Nat) ^ 41=2199023255552:=by decide
  omega
 obtain⟨s,hs⟩:∃s,s=64-L:=⟨_,rfl⟩
 have hs1:23<=s/\s<=63:=by omega
 obtain⟨Y,hY⟩:∃Y,y*2 ^ s=Y:=⟨_,rfl⟩
 have hY1:9223372036854775808<=Y:=by
  have:2 ^ (L-1)*2 ^ s<=y*2 ^ s:=Nat.mul_le_mul_right _ b2;rw[<-Nat.pow_add,show L-1+s=63 by omega,hY] at this
  have e:(2:Nat) ^ 63=9223372036854775808:=by decide
  omega
 have hY2:Y<18446744073709551616:=by
  have:y*2 ^ s<2 ^ L*2 ^ s:=Nat.mul_lt_mul_of_pos_right b3 (Nat.two_pow_pos _);rw[<-Nat.pow_add,show L+s=64 by omega,hY] at this
  have e:(2:Nat) ^ 64=18446744073709551616:=by decide
  omega
 have HLL:=Lib.hid (show (64-(Lib.bitLen (y:Int).toNat:Int))=(s:Int) by rw[Int.toNat_natCast,hL];omega)
 have P1:(y:Int)*2 ^ s=(Y:Int):=by rw[<-hY];simp
 have P2:IntKind.u64.wrap ((y:Int)*2 ^ s)=(Y:Int):=by rw[P1];exact Eb (by omega) (by omega)
 have P4:((s:Int)).toNat=s:=by omega
 have B4:¬(y:Int)<=(h:Int):=by omega
 have B5:¬(h:Int)=0:=by omega
 have B6:¬(y:Int)=0:=by omega
 clear hL b1 b2 b3 hL41 hs hY;go_enter Tryz.func205,Tryz.ntmps205
 go_upto_block 0 with (go_at_call 235;refine(Any.bits_LeadingZeros64 YtpbchbcdgikonaaGreat.lays134 (y:Int) _ (by omega) (by omega)).mono ?_;rintro e w1 ⟨rfl,rfl⟩;rw[HLL.out])
 clear P1 P2 P4 B4 B5 B6 hs1 HLL;obtain⟨V,hV⟩:∃V,(Y:Int) / 4294967296=V:=⟨_,rfl⟩
 have v1:2147483648<=V/\V<4294967296:=by omega
 rw[hV];generalize bits BinOp.and IntKind.u64 (Y:Int) 4294967295=M0;generalize bits BinOp.or IntKind.u64 (IntKind.u64.wrap ((h:Int)*2 ^ s)) ((l:Int) / 2 ^ (64-s))=U;generalize hQ1:IntKind.u64.wrap (U.tdiv V)=Q1;have q1:0<=Q1/\Q1<18446744073709551616:=by rw[<-hQ1,IntKind.wrap_u64];omega
 generalize hR1:IntKind.u64.wrap (U-IntKind.u64.wrap (Q1*V))=R1;have r1:0<=R1/\R1<18446744073709551616:=by rw[<-hR1,IntKind.wrap_u64];omega
 clear hQ1 hR1 hV;generalize IntKind.u64.wrap ((l:Int)*2 ^ s)=X1;generalize bits BinOp.and IntKind.u64 X1 4294967295=X2;generalize X1 / 4294967296=X3;go_cut [15,16] from 67 to 85 (fun q r wx=>∃a b:Int,q=.int .u64 a/\r=.int .u64 b/\0<=a/\a<18446744073709551616/\wx=w1)
 case first =>
  rename_i J0 K0 hJ hMet;go_upto_region 17 with fail;go_loopw [15,16] (fun q r wx=>∃a b:Int,q=.int .u64 a/\r=.int .u64 b/\0<=a/\a<18446744073709551616/\0<=b/\b<18446744073709551616/\wx=w1) (fun _ r _=>dvm r)
  case atStart=>exact⟨Q1,R1,rfl,rfl,q1.1,q1.2,r1.1,r1.2,rfl⟩
  case round =>
   obtain⟨a,b,rfl,rfl,ha1,ha2,hb1,hb2,rfl⟩:=hrel;go_wp2_with fail
   all_goals (first
    | ((first|refine Met.intro (hJ _ _ ?_)|refine hJ _ _ ?_)
       (repeat apply Exists.intro)
       refine⟨?_,rfl⟩;refine⟨_,_,rfl,rfl,?_,?_,?_⟩
       ·first|exact(Gs _).1|omega
       ·first|exact(Gs _).2|omega
       ·first|rfl|trivial)
    | (refine⟨⟨_,_,rfl,rfl,?_,?_,(Gs _).1,(Gs _).2,trivial⟩,ph hb1 v1.1 v1.2 (by assumption)⟩
       ·first|exact(Gs _).1|omega
       ·first|exact(Gs _).2|omega))
 case rest =>
  obtain⟨a,b,rfl,rfl,ha1,ha2,rfl⟩:=hcut;obtain⟨w2,rfl⟩:∃w2:World,w2=wc:=⟨_,rfl⟩
  go_upto_block 2 with fail
  generalize IntKind.u64.wrap (IntKind.u64.wrap (IntKind.u64.wrap (U*4294967296)+X3)-IntKind.u64.wrap (a*(Y:Int)))=U2;generalize hQ2:IntKind.u64.wrap (U2.tdiv V)=Q2;have q2:0<=Q2/\Q2<18446744073709551616:=by rw[<-hQ2];exact Gs _
  generalize hR2:IntKind.u64.wrap (U2-IntKind.u64.wrap (Q2*V))=R2;have r2:0<=R2/\R2<18446744073709551616:=by rw[<-hR2];exact Gs _
  clear hQ2 hR2;go_cut [16,18] from 102 to 120 (fun r q wx=>∃a b:Int,q=.int .u64 a/\r=.int .u64 b/\0<=a/\a<18446744073709551616/\wx=w2)
  case first =>
   rename_i J0 K0 hJ hMet;go_upto_region 24 with fail;go_loopw [16,18] (fun r q wx=>∃a b:Int,q=.int .u64 a/\r=.int .u64 b/\0<=a/\a<18446744073709551616/\0<=b/\b<18446744073709551616/\wx=w2) (fun r _ _=>dvm r)
   case atStart=>exact⟨Q2,R2,rfl,rfl,q2.1,q2.2,r2.1,r2.2,rfl⟩
   case round =>
    obtain⟨c,d,rfl,rfl,hc1,hc2,hd1,hd2,rfl⟩:=hrel;clear ha1 ha2;go_wp2_with fail
    all_goals (first
     | ((first|refine Met.intro (hJ _ _ ?_)|refine hJ _ _ ?_)
        (repeat apply Exists.intro)
        refine⟨?_,rfl⟩;refine⟨_,_,rfl,rfl,?_,?_,?_⟩
        ·first|exact(Gs _).1|omega
        ·first|exact(Gs _).2|omega
        ·first|rfl|trivial)
     | (refine⟨⟨_,_,rfl,rfl,?_,?_,(Gs _).1,(Gs _).2,trivial⟩,ph hd1 v1.1 v1.2 (by assumption)⟩
        ·first|exact(Gs _).1|omega
        ·first|exact(Gs _).2|omega))
  case rest =>
   obtain⟨c,d,rfl,rfl,hc1,hc2,rfl⟩:=hcut;go_wp2_with fail
   go_ret2
   exact⟨_,_,rfl,Below.refl _ _⟩
theorem Ah2 (h l y:Nat) (w:World) (hhy:h<y) (hl:l<18446744073709551616) (hy2:y<=1099511627776) :
 Calls Tryz.prog 205 #[.int .u64 (h:Int),.int .u64 (l:Int),.int .u64 (y:Int)] w (Ae8 w):=by
 rcases Nat.eq_zero_or_pos h with rfl|h0
 ·exact ze l y w hl hhy hy2
 ·exact zd h l y w h0 hhy hl hy2
def Ae4 (w:World) (c:Int) (e:Ending) (w':World):Prop:=∃z:Int,e=.returned (.tuple #[.int .i64 z,.int .i64 c])/\Below w.heap.size w w'
theorem xj (a b c:Int) (w:World) (h:Qx a b c=true):Calls Tryz.prog 168 #[.int .i64 a,.int .i64 b,.bool false,.int .i64 c] w (Ae4 w 3):=by
 have HP:a<1\/1099511627776<a\/b<0\/1099511627776<b\/c<0\/a<c:=by unfold Qx at h;simp at h;omega
 have H1:=Lib.hid HP;clear h HP;obtain⟨x1,y1⟩:∃x,decide (a<1)=x:=⟨_,rfl⟩
 obtain⟨x2,y2⟩:∃x,decide (1099511627776<a)=x:=⟨_,rfl⟩
 obtain⟨x3,y3⟩:∃x,decide (b<0)=x:=⟨_,rfl⟩
 obtain⟨x4,y4⟩:∃x,decide (1099511627776<b)=x:=⟨_,rfl⟩
 obtain⟨x5,y5⟩:∃x,decide (c<0)=x:=⟨_,rfl⟩
 obtain⟨x6,y6⟩:∃x,decide (a<c)=x:=⟨_,rfl⟩
 have HX:Hid ((x1 || x2 || x3 || x4 || x5 || x6)=true):=Lib.hid (by
  have:=H1.out;rw[<-y1,<-y2,<-y3,<-y4,<-y5,<-y6];simp;omega)
 clear H1;go_enter Tryz.func168,Tryz.ntmps168;have hx:=HX.out;cases x1<;>cases x2<;>cases x3<;>cases x4<;>cases x5<;>cases x6<;>(first|(simp at hx;done)|skip)
 all_goals clear hx HX
 all_goals go_wp2_with fail
 all_goals go_ret2
 all_goals exact⟨_,rfl,Below.refl _ _⟩
theorem Ac5 (a b c:Nat) (w:World) (h1:1<=a) (h2:a<=1099511627776) (h4:b<=1099511627776) (h6:c<=a):Calls Tryz.prog 168 #[.int .i64 (a:Int),.int .i64 (b:Int),.bool false,.int .i64 (c:Int)] w (Ae4 w 0):=by
 obtain⟨h,hh⟩:∃h,c*b / 18446744073709551616=h:=⟨_,rfl⟩
 obtain⟨l,hl⟩:∃h,c*b % 18446744073709551616=h:=⟨_,rfl⟩
 have hl2:l<18446744073709551616:=by rw[<-hl];exact Nat.mod_lt _ (by omega)
 have hha:h<a:=by
  rw[<-hh,Nat.div_lt_iff_lt_mul (by omega)]
  have:=Nat.mul_le_mul h6 h4;omega
 have W1:IntKind.u64.wrap (c:Int)=(c:Int):=Eb (by omega) (by omega)
 have W2:IntKind.u64.wrap (b:Int)=(b:Int):=Eb (by omega) (by omega)
 have W3:IntKind.u64.wrap (a:Int)=(a:Int):=Eb (by omega) (by omega)
 have HH:=Lib.hid hh;have HL:=Lib.hid hl;clear hh hl;go_enter Tryz.func168,Tryz.ntmps168
 go_wp2_with (first
  | (go_at_call 205;refine(Ah2 h l a _ hha hl2 h2).mono ?_;rintro e w2 ⟨q,r,rfl,hb2⟩)
  | (go_at_call 204;refine(Any.bits_Mul64 YtpbchbcdgikonaaGreat.lays264 c b (by omega) (by omega) _).mono ?_;rintro e w1 ⟨rfl,rfl⟩;rw[HH.out,HL.out]))
 all_goals go_ret2
 all_goals exact⟨_,rfl,hb2⟩
theorem Xs (a b c:Int) (w:World):Calls Tryz.prog 168 #[.int .i64 a,.int .i64 b,.bool false,.int .i64 c] w (Ae4 w (if Qx a b c then 3 else 0)):=by
 cases h:Qx a b c with
 | true=>exact xj a b c w h
 | false =>
   have HP:¬a<1/\¬1099511627776<a/\¬b<0/\¬1099511627776<b/\¬c<0/\¬a<c:=by unfold Qx at h;simp at h;omega
   obtain⟨a',rfl⟩:∃n:Nat,a=n:=⟨a.toNat,by omega⟩
   obtain⟨b',rfl⟩:∃n:Nat,b=n:=⟨b.toNat,by omega⟩
   obtain⟨c',rfl⟩:∃n:Nat,c=n:=⟨c.toNat,by omega⟩
   exact Ac5 a' b' c' w (by omega) (by omega) (by omega) (by omega)
theorem Yk {p:PieceP} {m:Int} (h:(Cn p m).2=0):(Cn p m).1=G0 p m/\Fp p.ed=0/\Fp (G0 p m)=0/\wI m 100=true:=by
 unfold Cn at h ⊢;split at h
 ·cases h
 ·rename_i g0
  split at h
  ·cases h
  ·rename_i g1
   split at h
   ·cases h
   ·rename_i g2
    split at h
    ·rename_i g;exact absurd h g
    ·rename_i g3
     split at h
     ·rename_i g;exact absurd h g
     ·rename_i g4
      rw[if_neg g0,if_neg g1,if_neg g2,if_neg g3,if_neg g4];exact⟨rfl,by simpa using g3,by simpa using g4,by simpa using g0⟩
theorem Q6 {l:List (Int×Int)} {n:Nat} (h:plW l n=0):(Pv l n).2=0:=by unfold Pv;rw[if_pos h]
def Ae7 (w:World) (c:Int) (e:Ending) (w':World):Prop:=∃v u,e=.returned (.tuple #[v,u,.int .i64 c])/\Below w.heap.size w w'
theorem Ald (vs:Array Value) (p:PieceP) (m:Int) (w:World) (hv:PcV w vs p) (h:(Cn p m).2≠0):Calls Tryz.prog 137 #[.agg vs,.int .i64 m] w (Ae7 w (Cn p m).2):=by
 have hv0:=hv;obtain⟨r,hr⟩:∃r,Cn p m=r:=⟨_,rfl⟩
 have HR:=Lib.hid hr;rw[hr] at h ⊢;obtain⟨E,c⟩:=r;dsimp only at h ⊢;have hne:(c != 0)=true:=by simpa using h
 clear hr h;obtain⟨A1,c1,A2,c2,A3,c3,A4,c4,rfl,⟨v1,v2,v3⟩,⟨v4,v5,v6⟩,⟨v7,v8,v9⟩,⟨v10,v11,v12⟩⟩:=hv;go_enter Tryz.func137,Tryz.ntmps137;go_upto_region 1 with fail;refine Ar (fun X=>Below w.heap.size w X/\Bb X w.heap.size 64 #[.string p.nm,.slice A1 p.ed.length c1,.int .i64 p.gr,.slice A2 p.nt.length c2,.slice A3 p.cr.length c3,.slice A4 p.wd.length c4,.bool p.mt]) ⟨An (Below.refl _ _) _,Bb.new _ _ _⟩ ?_
 rintro X ⟨hbX,hP⟩;obtain⟨p0,p1,p2,p3,p4,p5,p6⟩:=pc7 hP
 go_wp2_with (go_at_call 48;refine(Cc _ p m _ (hv0.keep hbX)).mono ?_;rintro e w1 ⟨A5,c5,rfl,-,-,-,hb1⟩;rw[HR.out])
 go_ret3
 exact⟨_,_,rfl,Ao hbX hb1⟩
theorem Ada {p:PieceP} {E:List EdgeP} {k n1:Nat} (hl:p.ed.length=n1) (h1:∀j,j<n1->plW (edg p.ed j).ln (edg p.ed j).ln.length=0) (h2:∀j,j<n1->plW (edg E j).ln (edg E j).ln.length=0) :
 Uq p E k=if (gt p.nt k).1<0\/(n1:Int)<=(gt p.nt k).1 then 3 else if Qx (Pv (edg p.ed (gt p.nt k).1.toNat).ln (edg p.ed (gt p.nt k).1.toNat).ln.length).1 (Pv (edg E (gt p.nt k).1.toNat).ln (edg E (gt p.nt k).1.toNat).ln.length).1 (gt p.nt k).2 then 3 else 0:=by
 unfold Uq;rw[hl];by_cases h:(gt p.nt k).1<0\/(n1:Int)<=(gt p.nt k).1
 ·rw[if_pos h,if_pos h]
 ·rw[if_neg h,if_neg h,if_neg (by rw[Q6 (h1 _ (by omega))];simp),if_neg (by rw[Q6 (h2 _ (by omega))];simp)]
theorem Alc (vs:Array Value) (p:PieceP) (m:Int) (w:World) (hv:PcV w vs p) (h:(Cn p m).2=0):Calls Tryz.prog 137 #[.agg vs,.int .i64 m] w (Ae7 w (Hq p m)):=by
 have hv0:=hv;obtain⟨g1,g2,g3,-⟩:=Yk h;have HNW:=Lib.hid (show Hq p m=if 16<p.nt.length then 5 else Gk (Uq p (G0 p m)) p.nt.length by unfold Hq;rw[if_neg (by rw[h];simp),g1])
 have HR:=Lib.hid (show Cn p m=(G0 p m,0) from Prod.ext g1 h)
 have o1:=Is g2;have o2:=Is g3;have hEl:(G0 p m).length=p.ed.length:=by unfold G0;exact Ls p m _
 obtain⟨E,hE⟩:∃E,G0 p m=E:=⟨_,rfl⟩
 rw[hE] at HR HNW o2 hEl;have HNE:=Lib.hid (fun k=>Ada (p:=p) (E:=E) (k:=k) rfl (fun j hj=>(o1.2.2.1 j hj).2) (fun j hj=>(o2.2.2.1 j (by rw[hEl];exact hj)).2))
 have HP1:=Lib.hid (fun j (hj:j<p.ed.length)=>Iq (o1.2.2.1 j hj).2)
 have HP2:=Lib.hid (fun j (hj:j<p.ed.length)=>Iq (o2.2.2.1 j (by rw[hEl];exact hj)).2)
 have HL1:=Lib.hid (fun j (hj:j<p.ed.length)=>Q6 (o1.2.2.1 j hj).2)
 have HL2:=Lib.hid (fun j (hj:j<p.ed.length)=>Q6 (o2.2.2.1 j (by rw[hEl];exact hj)).2)
 have HEL:=Lib.hid hEl;have hn16:=o1.2.1;clear g1 g2 g3 h o1 o2 hE hEl;obtain⟨A1,c1,A2,c2,A3,c3,A4,c4,rfl,⟨v1,v2,v3⟩,⟨v4,v5,v6⟩,⟨v7,v8,v9⟩,⟨v10,v11,v12⟩⟩:=hv;go_enter Tryz.func137,Tryz.ntmps137;go_upto_region 1 with fail;refine Ar (fun X=>Below w.heap.size w X/\Bb X w.heap.size 64 #[.string p.nm,.slice A1 p.ed.length c1,.int .i64 p.gr,.slice A2 p.nt.length c2,.slice A3 p.cr.length c3,.slice A4 p.wd.length c4,.bool p.mt]) ⟨An (Below.refl _ _) _,Bb.new _ _ _⟩ ?_
 rintro X ⟨hbX,hP⟩;obtain⟨p0,p1,p2,p3,p4,p5,p6⟩:=pc7 hP;obtain⟨n1,hn1⟩:∃n,p.ed.length=n:=⟨_,rfl⟩
 obtain⟨n2,hn2⟩:∃n,p.nt.length=n:=⟨_,rfl⟩
 rw[hn1] at p1 v1 v3 hP HNE HP1 HP2 HL1 HL2 HEL hn16;rw[hn2] at p3 v4 v6 hP HNW;have v3X:=v3.keep hbX;have v6X:=v6.keep hbX;have hvX:=hv0.keep hbX;rw[hn1,hn2] at hvX;clear hn1 hn2 hv0 v3 v6 v9 v12;by_cases h16:16<n2
 ·have HF:=Lib.hid (show Hq p m=5 by rw[HNW.out,if_pos h16])
  go_wp2_with (go_at_call 48;refine(Cc _ p m _ hvX).mono ?_;rintro e w1 ⟨A5,c5,rfl,-,-,-,hb1⟩;rw[HR.out];obtain⟨q0,q1,q2,q3,q4,q5,q6⟩:=pc7 (hP.keep hb1))
  go_ret3
  rw[HF.out];exact⟨_,_,rfl,Ao hbX hb1⟩
 ·have HF:=Lib.hid (show Hq p m=Gk (Uq p E) n2 by rw[HNW.out,if_neg h16])
  have hP0:=hP
  go_upto_region 8 with (go_at_call 48;refine(Cc _ p m _ hvX).mono ?_;rintro e w1 ⟨A5,c5,rfl,⟨i1,-⟩,i2,i3,hb1⟩;rw[HR.out] at i1 i3 ⊢;dsimp only at i1 i3 ⊢;rw[HEL.out] at i1 i3 ⊢;obtain⟨q0,q1,q2,q3,q4,q5,q6⟩:=pc7 (hP.keep hb1))
  have v3Y:=v3X.keep hb1;have v6Y:=v6X.keep hb1;have hP1:=hP.keep hb1;have HK:=Lib.hid (fun k (hk:k<n2) (h0:Gk (Uq p E) k=0) (h3:Uq p E k≠0)=>show Hq p m=Uq p E k by rw[HF.out];exact Re hk h0 h3)
  have hbW:=Ao hbX hb1;clear q0 q1 q2 q3 q4 q5 q6 p0 p1 p2 p3 p4 p5 p6 hP hP0 hvX v3X v6X hbX hb1 HNW;go_loopw [9,11,12,13,14,15,32] (fun v _ _ _ _ _ i wr=>∃(k:Nat) (z:List Int),k<=n2/\i=.int .i64 k/\Hid (Gk (Uq p E) k=0)/\OwI wr w1.heap.size v z/\z.length=k/\Below w1.heap.size w1 wr) (fun _ _ _ _ _ _ i _=>n2-(intOf i).toNat)
  case atStart=>exact⟨0,[],Nat.zero_le _,rfl,Lib.hid rfl,OwG.nil,rfl,Below.refl _ _⟩
  case round =>
   obtain⟨k,z,hk,rfl,hz,ho,hzl,hb⟩:=hrel;by_cases hlt:k<n2
   ·obtain⟨b0,off,rfl,-,hc⟩:=(v6Y.keep hb).at_ hlt
    obtain⟨e1,e2⟩:=hc k hlt;have HN:=Lib.hid (HNE.out k);have HKK:=Lib.hid (HK.out k hlt hz.out);have hsz0:Gk (Uq p E) (k+1)=Uq p E k:=Iy hz.out;have HS0:=Lib.hid hsz0;obtain⟨⟨x,y⟩,hxy⟩:∃q,gt p.nt k=q:=⟨_,rfl⟩
    rw[hxy] at e1 e2 HN;dsimp only at e1 e2 HN;obtain⟨q0,q1,q2,q3,q4,q5,q6⟩:=pc7 (hP1.keep hb);have HZL:=Lib.hid hzl;have hzb:z.length<=1000:=by omega
    clear hc hxy hsz0 hzl;by_cases hx0:x<0
    ·have HR:=Lib.hid (show Hq p m=3 by
      have e:Uq p E k=3:=by rw[HN.out,if_pos (Or.inl hx0)]
      rw[<-e];exact HKK.out (by rw[e];decide))
     go_wp2_with fail
     go_ret3
     rw[HR.out];exact⟨_,_,rfl,Ao hbW (An hb _)⟩
    ·by_cases hx1:(n1:Int)<=x
     ·have HR:=Lib.hid (show Hq p m=3 by
       have e:Uq p E k=3:=by rw[HN.out,if_pos (Or.inr hx1)]
       rw[<-e];exact HKK.out (by rw[e];decide))
      obtain⟨j,rfl⟩:∃j:Nat,x=j:=⟨x.toNat,by omega⟩
      have B1:(n1:Int)<=(j:Int):=hx1;go_upto_region 10 with fail;refine Ar (fun Y=>Below wr.heap.size wr Y/\Bb Y wr.heap.size 262 #[.int .i64 (j:Int),.int .i64 y]) ⟨An (Below.refl _ _) _,Bb.new _ _ _⟩ ?_
      rintro Y ⟨hbY,hV⟩;obtain⟨t0,t1⟩:=V5 hV;have Q1:=Aq hbY q1;clear q0 q1 q2 q3 q4 q5 q6 e1 e2;go_wp2_with fail;all_goals go_ret3
      all_goals rw[HR.out]
      all_goals exact⟨_,_,rfl,Ao hbW (Ao hb hbY)⟩
     ·obtain⟨j,rfl⟩:∃j:Nat,x=j:=⟨x.toNat,by omega⟩
      have hj:j<n1:=by omega
      obtain⟨b1,o1,rfl,hc1⟩:=(v3Y.keep hb).at_ hj;obtain⟨b2,o2,rfl,hc2⟩:=(i3.keep hb).at_ hj;obtain⟨-,Al,cl,d1,r1,r2,r3⟩:=hc1 j hj;obtain⟨-,Am,cm,f1,s1,s2,s3⟩:=hc2 j hj;have HN2:=Lib.hid (show Uq p E k=if Qx (Pv (edg p.ed j).ln (edg p.ed j).ln.length).1 (Pv (edg E j).ln (edg E j).ln.length).1 y then 3 else 0 by rw[HN.out,if_neg (by omega)];rfl)
      have hz1:=HL1.out j hj;have hz2:=HL2.out j hj;have hb1:=HP1.out j hj;have hb2:=HP2.out j hj;obtain⟨l1,hl1⟩:∃l,(edg p.ed j).ln=l:=⟨_,rfl⟩
      obtain⟨l2,hl2⟩:∃l,(edg E j).ln=l:=⟨_,rfl⟩
      rw[hl1] at d1 r1 r3 HN2 hz1 hb1;rw[hl2] at f1 s1 s3 HN2 hz2 hb2;obtain⟨m1,hm1⟩:∃l,l1.length=l:=⟨_,rfl⟩
      obtain⟨m2,hm2⟩:∃l,l2.length=l:=⟨_,rfl⟩
      rw[hm1] at d1 r1 r3 HN2 hz1 hb1;rw[hm2] at f1 s1 s3 HN2 hz2 hb2;obtain⟨⟨L1,z1⟩,hL1⟩:∃l,Pv l1 m1=l:=⟨_,rfl⟩
      obtain⟨⟨L2,z2⟩,hL2⟩:∃l,Pv l2 m2=l:=⟨_,rfl⟩
      rw[hL1] at HN2 hz1;rw[hL2] at HN2 hz2;dsimp only at HN2 hz1 hz2;subst hz1 hz2;have HA:=Lib.hid hL1;have HB:=Lib.hid hL2;have B1:(j:Int)<(n1:Int):=by omega
      have hA1:m1<=9223372036854775807:=by omega
      have hA2:m2<=9223372036854775807:=by omega
      obtain⟨pb,hpb⟩:∃pb,Qx L1 L2 y=pb:=⟨_,rfl⟩
      have HPB:=Lib.hid hpb;rw[hpb] at HN2;clear hc1 hc2 hl1 hl2 hm1 hm2 hL1 hL2 hx0 hx1 hpb hb1 hb2 r1 s1 HN;go_upto_region 10 with fail;refine Ar (fun Y=>Below wr.heap.size wr Y/\Bb Y wr.heap.size 262 #[.int .i64 (j:Int),.int .i64 y]) ⟨An (Below.refl _ _) _,Bb.new _ _ _⟩ ?_
      rintro Y ⟨hbY,hV⟩;obtain⟨t0,t1⟩:=V5 hV;have Q1:=Aq hbY q1;have D1:=Aq hbY d1;have F1:=Aq hbY f1;have R3:=r3.keep hbY;have S3:=s3.keep hbY;have hO:=OwG.keep ho hbY;have hbE:=Ao hb hbY;clear q0 q1 q2 q3 q4 q5 q6 d1 f1 r3 s3 ho e1 e2;cases pb with
      | true =>
        have HR:=Lib.hid (show Hq p m=3 by
         have e:Uq p E k=3:=by rw[HN2.out];rfl
         rw[<-e];exact HKK.out (by rw[e];decide))
        go_wp2_with (first
         | (go_at_call 168;have hz:=hb5;refine(Xs L1 L2 y _).mono ?_;rintro e w6 ⟨pz,rfl,hb6⟩;rw[HPB.out];simp only[if_true])
         | (go_at_call 167;have hz:=hb4;refine(Kh Am cm m2 l2 _ hA2 (S3.keep hb4)).mono ?_;rintro e w5 ⟨rfl,hb5⟩;rw[HB.out];have t1'':=Aq hb5 t1')
         | (go_at_call 167;refine(Kh Al cl m1 l1 _ hA1 R3).mono ?_;rintro e w4 ⟨rfl,hb4⟩;rw[HA.out];have t0':=Aq hb4 t0;have t1':=Aq hb4 t1;have F1':=Aq hb4 F1))
        go_ret3
        rw[HR.out];exact⟨_,_,rfl,Ao hbW (Ao (Ao (Ao hbE hb4) hb5) hb6)⟩
      | false =>
        have HE0:=Lib.hid (show Gk (Uq p E) (k+1)=0 by rw[HS0.out,HN2.out];rfl)
        go_wp2_with (first
         | (go_at_call 168;have hz:=hb5;refine(Xs L1 L2 y _).mono ?_;rintro e w6 ⟨pz,rfl,hb6⟩;rw[HPB.out];simp only[Bool.false_eq_true,if_false])
         | (go_at_call 167;have hz:=hb4;refine(Kh Am cm m2 l2 _ hA2 (S3.keep hb4)).mono ?_;rintro e w5 ⟨rfl,hb5⟩;rw[HB.out];have t1'':=Aq hb5 t1')
         | (go_at_call 167;refine(Kh Al cl m1 l1 _ hA1 R3).mono ?_;rintro e w4 ⟨rfl,hb4⟩;rw[HA.out];have t0':=Aq hb4 t0;have t1':=Aq hb4 t1;have F1':=Aq hb4 F1)
         | (at_builtin;refine Jr rfl _ _ rfl w1.heap.size _ z rfl (OwG.alloc (OwG.keep (OwG.keep (OwG.keep hO hb4) hb5) hb6) _) _ 1 1 [pz] rfl (InS.new _ _ _) (fun h=>by cases h) (by omega) (An (Ao (Ao (Ao hbE hb4) hb5) hb6) _).size ?_;intro v7 w7 ho7 hg7 hat7))
        exact⟨⟨k+1,z++[pz],by omega,by go_num,HE0,ho7,by rw[List.length_append,HZL.out];rfl,Bm (An (Ao (Ao (Ao hbE hb4) hb5) hb6) _) (OwG.alloc (OwG.keep (OwG.keep (OwG.keep hO hb4) hb5) hb6) _) hg7⟩,by simp[intOf];omega⟩
   ·obtain rfl:n2=k:=by omega
    have HR:=Lib.hid (show Hq p m=0 by rw[HF.out,hz.out])
    go_wp2_with fail
    go_ret3
    rw[HR.out];exact⟨_,_,rfl,Ao hbW hb⟩
theorem Z6 (vs:Array Value) (p:PieceP) (m:Int) (w:World) (hv:PcV w vs p):Calls Tryz.prog 137 #[.agg vs,.int .i64 m] w (Ae7 w (Hq p m)):=by
 by_cases h:(Cn p m).2=0
 ·exact Alc vs p m w hv h
 ·have:Hq p m=(Cn p m).2:=by unfold Hq;rw[if_pos h]
  rw[this];exact Ald vs p m w hv h
theorem De (vs:Array Value) (p:PieceP) (m:Int) (w:World) (hv:PcV w vs p):Calls Tryz.prog 106 #[.agg vs,.int .i64 m] w fun e w'=>∃v,e=.returned (.tuple #[v,.int .i64 (Hq p m)])/\Below w.heap.size w w':=by
 have hv0:=hv;obtain⟨A1,c1,A2,c2,A3,c3,A4,c4,rfl,-⟩:=hv;go_enter Tryz.func106,Tryz.ntmps106;go_upto_region 1 with fail;refine Ar (fun X=>Below w.heap.size w X/\Bb X w.heap.size 64 #[.string p.nm,.slice A1 p.ed.length c1,.int .i64 p.gr,.slice A2 p.nt.length c2,.slice A3 p.cr.length c3,.slice A4 p.wd.length c4,.bool p.mt]) ⟨An (Below.refl _ _) _,Bb.new _ _ _⟩ ?_
 rintro X ⟨hbX,hP⟩;obtain⟨p0,p1,p2,p3,p4,p5,p6⟩:=pc7 hP
 go_wp2_with (go_at_call 137;refine(Z6 _ p m _ (hv0.keep hbX)).mono ?_;rintro e w1 ⟨v,u,rfl,hb1⟩)
 go_ret2
 exact⟨_,rfl,Ao hbX hb1⟩
end Go.Proofs.YtpbchbcdgikonaaGreat

/- Lean texts of the claim. -/
import Derived.Test.YtpbchbcdgikonaaGreatQ04
namespace Go.Proofs.YtpbchbcdgikonaaGreat
set_option linter.unusedVariables false
set_option linter.unusedSimpArgs false
set_option maxRecDepth 100000
set_option maxHeartbeats 4000000
open Go.RowKit
def Th (l:List (Int×Int)) (d:Int×Int):List (Int×Int):=l.map fun p=>(wrap64 (p.1+d.1),wrap64 (p.2+d.2))
theorem Kl (l:List (Int×Int)) (d:Int×Int):(Th l d).length=l.length:=by simp[Th]
theorem Adj {l:List (Int×Int)} {d:Int×Int} {p:Nat} (hp:p<l.length):gt (Th l d) p=(wrap64 ((gt l p).1+d.1),wrap64 ((gt l p).2+d.2)):=by
 unfold gt Th;rw[List.getD,List.getElem?_map,List.getD,List.getElem?_eq_getElem hp];rfl
theorem jt (A:Option Addr) (cap n:Nat) (l:List (Int×Int)) (x y:Int) (w:World) (hn:n<=1000000) (hs:SpS w A n l) :
 Calls Tryz.prog 30 #[.slice A n cap,.agg #[.int .i64 x,.int .i64 y]] w (Zk w (Th l (x,y))):=by
 obtain⟨Z,hmk,hZ⟩:=He n hn;go_enter Tryz.func30,Tryz.ntmps30;go_wp2_with fail;go_loopw [13] (fun i wr=>∃(k:Nat) (z:List (Int×Int)),k<=n/\i=.int .i64 k/\z.length=n/\(∀p,p<k->gt z p=(wrap64 ((gt l p).1+x),wrap64 ((gt l p).2+y)))/\Bb wr w.heap.size 49 #[.int .i64 x,.int .i64 y]/\OwS wr (w.heap.size+1) (.slice (some ⟨w.heap.size+1,0,none⟩) n n) z/\Below w.heap.size w wr) (fun i _=>n-(intOf i).toNat)
 case atStart=>exact⟨0,_,Nat.zero_le _,rfl,List.length_replicate,fun p hp=>absurd hp (Nat.not_lt_zero _),(Bb.new _ _ _).alloc _,by have:=hZ (w.alloc (.cells #[.int .i64 x,.int .i64 y] 49));simpa using this,An (An (Below.refl _ _) _) _⟩
 case round =>
  clear hmk hZ;obtain⟨k,z,hk,rfl,hz,hp,hB,ho,hb⟩:=hrel;by_cases hlt:k<n
  ·obtain⟨b,off,rfl,hbl,hc⟩:=(hs.keep hb).at_ hlt
   obtain⟨h1,h2⟩:=hc k hlt;clear hc;obtain⟨c1,c2,f1,f2⟩:=ho.cells hz hlt;have hgl:w.heap.size+1<wr.heap.size:=Bj c1;have hgl0:w.heap.size<wr.heap.size:=by omega
   have c3:=hB.cell 0;have c4:=hB.cell 1;simp only[List.getElem?_toArray,List.getElem?_cons_zero,List.getElem?_cons_succ] at c3 c4;go_wp2_with fail;refine⟨⟨k+1,z.set k (wrap64 ((gt l k).1+x),wrap64 ((gt l k).2+y)),by omega,by go_num,by rw[List.length_set];exact hz,fun p h=>?_,((hB.far (p:=⟨w.heap.size+1,k*2,none⟩) (Nat.ne_of_lt (Nat.lt_succ_self _)) _).far (p:=⟨w.heap.size+1,k*2+1,none⟩) (Nat.ne_of_lt (Nat.lt_succ_self _)) _).alloc _,(ho.store hz hlt _ _).alloc _,An (Bc (Bc hb (p:=⟨w.heap.size+1,k*2,none⟩) (Nat.le_succ _) _) (p:=⟨w.heap.size+1,k*2+1,none⟩) (Nat.le_succ _) _) _⟩,by simp[intOf];omega⟩
   rw[Kq (by rw[hz];exact hlt)]
   by_cases h2:k=p
   ·rw[if_pos h2,h2]
   ·rw[if_neg h2];exact hp p (by omega)
  ·obtain rfl:n=k:=by omega
   go_wp2_with fail;go_ret;refine⟨_,rfl,?_,hb⟩;rw[show Th l (x,y)=z from Fz (by rw[Kl,hs.1,hz]) (fun p h=>by rw[Kl] at h;rw[Adj h,hp p (by rw[<-hs.1];exact h)])]
   exact ho.lower (Nat.le_succ _)
theorem x7 (A:Option Addr) (cap n:Nat) (l:List (Int×Int)) (x y:Int) (w:World) (hn:n<=1000000) (hs:SpS w A n l) :
 Calls Tryz.prog 14 #[.slice A n cap,.agg #[.int .i64 x,.int .i64 y]] w (Zk w (Th l (x,y))):=by
 go_enter Tryz.func14,Tryz.ntmps14
 go_wp2_with (go_at_call 30;refine(jt A cap n l x y _ hn (hs.keep (An (Below.refl _ _) _))).mono ?_;rintro e w1 ⟨v,rfl,ho,hb1⟩)
 go_ret;refine⟨_,rfl,ho.lower (by simp),Ao (An (Below.refl _ _) _) hb1⟩
section
open Go.RowKit Go.BigFrame
theorem OwS.take {w:World} {base g n cap:Nat} {l:List (Int×Int)} (h:OwS w base (.slice (some ⟨g,0,none⟩) n cap) l) (hn:l.length=n) {k:Nat} (hk:k<=n):OwS w base (.slice (some ⟨g,0,none⟩) k cap) (l.take k):=by
 subst hn;have hl:(l.take k).length=k:=by rw[List.length_take];omega
 rcases h.2 with ⟨h1,_⟩|⟨g',cap',cur,hv,hg,hh,h1,h2,h3,h4⟩
 ·cases h1
 ·injection hv with e1 e2 e3
  injection e1 with e1
  injection e1 with e1
  subst e1;subst e3;unfold OwS OwG;refine⟨by rw[Cy Ci],.inr ⟨g,cap,cur,by rw[hl],hg,hh,by rw[hl];omega,h2,h3,?_⟩⟩
  rw[hl,<-Tw,<-h4,List.take_take]
  congr 1
  omega
def U7 (p:Int×Int) (r:List (Int×Int)):List (Int×Int) :=
 if 1<r.length/\Bo (gt r (r.length-2)) (gt r (r.length-1)) p<=0 then U7 p (r.take (r.length-1)) else r
termination_by r.length
decreasing_by rw[List.length_take];omega
def I2 (l:List (Int×Int)):Nat->List (Int×Int)
 | 0=>[]
 | k+1=>U7 (gt l k) (I2 l k)++[gt l k]
def Ot (l:List (Int×Int)):List (Int×Int):=(I2 l l.length).take ((I2 l l.length).length-1)
theorem xd (p:Int×Int) (r:List (Int×Int)):(U7 p r).length<=r.length:=by
 induction r using U7.induct p with
 | case1 r h ih=>rw[U7,if_pos h];refine Nat.le_trans ih ?_;rw[List.length_take];omega
 | case2 r h=>rw[U7,if_neg h];exact Nat.le_refl _
theorem K8 (l:List (Int×Int)) (k:Nat):(I2 l k).length<=k:=by
 induction k with
 | zero=>exact Nat.le_refl _
 | succ k ih=>rw[I2,List.length_append];have:=xd (gt l k) (I2 l k);simp;omega
theorem xc {p:Int×Int} {r:List (Int×Int)} {m:Nat} (hm:r.length=m) (h1:1<m) (h2:Bo (gt r (m-2)) (gt r (m-1)) p<=0):U7 p r=U7 p (r.take (m-1)):=by
 subst hm;rw[U7,if_pos ⟨h1,h2⟩]
theorem jr {p:Int×Int} {r:List (Int×Int)} {m:Nat} (hm:r.length=m) (h:¬1<m\/¬Bo (gt r (m-2)) (gt r (m-1)) p<=0):U7 p r=r:=by
 subst hm;rw[U7,if_neg (by rintro⟨h1,h2⟩;rcases h with h|h;exact h h1;exact h h2)]
def Ait:Value->Nat
 | .slice _ n _=>n
 | _=>0
theorem Qg (A:Option Addr) (cap n:Nat) (l:List (Int×Int)) (w:World) (h0:0<n) (hn:n<=1000000) (hs:SpS w A n l) :
 Calls Tryz.prog 246 #[.slice A n cap] w (Zk w (Ot l)):=by
 go_enter Tryz.func246,Tryz.ntmps246;go_wp2_with fail;go_loopw [3,8] (fun v i wr=>∃k:Nat,k<=n/\i=.int .i64 k/\OwS wr w.heap.size v (I2 l k)/\Below w.heap.size w wr) (fun _ i _=>n-(intOf i).toNat)
 case atStart=>exact⟨0,Nat.zero_le _,rfl,OwG.nil,Below.refl _ _⟩
 case round =>
  obtain⟨k,hk,rfl,ho,hb⟩:=hrel;by_cases hlt:k<n
  ·obtain⟨b,off,rfl,hbl,hc⟩:=(hs.keep hb).at_ hlt
   obtain⟨h1,h2⟩:=hc k hlt;clear hc;go_upto_region 5 with fail;clear h1 h2 hbl;obtain⟨B5,hB5⟩:∃B,wr.heap.size=B:=⟨_,rfl⟩
   have hB0:Bb (wr.alloc (.cells #[.int .i64 (gt l k).1,.int .i64 (gt l k).2] 49)) B5 49 #[.int .i64 (gt l k).1,.int .i64 (gt l k).2]:=by rw[<-hB5];exact Bb.new _ _ _
   rw[hB5];go_loopw [3] (fun v wx=>∃r,U7 (gt l k) r=U7 (gt l k) (I2 l k)/\r.length<=k/\OwS wx w.heap.size v r/\Bb wx B5 49 #[.int .i64 (gt l k).1,.int .i64 (gt l k).2]/\Below w.heap.size w wx/\v.ownBlock≠some B5) (fun v _=>Ait v)
   case atStart=>exact⟨_,rfl,K8 _ _,ho.alloc _,hB0,An hb _,fun h=>by rw[<-hB5] at h;exact Nat.lt_irrefl _ (ho.lt _ h).2⟩
   case round =>
    clear ho hb hB0 hB5;obtain⟨r,hp,hr,ho,hB,hb,hne⟩:=hrel;obtain⟨A,c,rfl,hc,_,hA⟩:=OwG.form2 ho;obtain⟨m,hm⟩:∃m,r.length=m:=⟨_,rfl⟩
    rw[hm] at ho hc hA hr hne ⊢;have c1:=hB.cell 0;have c2:=hB.cell 1;simp only[List.getElem?_toArray,List.getElem?_cons_zero,List.getElem?_cons_succ] at c1 c2;by_cases h1:1<m
    ·obtain⟨g,rfl,hg1,hg2⟩:=hA (by omega)
     obtain⟨j,hj⟩:∃j,m-2=j:=⟨_,rfl⟩
     obtain⟨i,hi⟩:∃i,m-1=i:=⟨_,rfl⟩
     have hjm:j<m:=by omega
     have him:i<m:=by omega
     obtain⟨d1,d2,_,_⟩:=ho.cells hm hjm;obtain⟨d3,d4,_,_⟩:=ho.cells hm him;have q:((1:Int)<(m:Int))=True:=by simp;omega
     have e1:IntKind.i64.wrap ((m:Int)-1)=(i:Int):=(Gx _ (by omega) (by omega)).trans (by omega)
     have e2:IntKind.i64.wrap ((m:Int)-2)=(j:Int):=(Gx _ (by omega) (by omega)).trans (by omega)
     by_cases hcr:Bo (gt r j) (gt r i) (gt l k)<=0
     ·have qc:(Bo ((gt r j).1,(gt r j).2) ((gt r i).1,(gt r i).2) ((gt l k).1,(gt l k).2)<=0)=True:=by simpa using hcr
      have hpy:=Lib.hid (xc (p:=gt l k) hm h1 (by rw[hi,hj];exact hcr))
      go_wp2_with fail;refine Bi wr [(⟨B5,0,none⟩,.int .i64 (gt l k).1),(⟨B5,1,none⟩,.int .i64 (gt l k).2),(⟨g,j*2,none⟩,.int .i64 (gt r j).1),(⟨g,j*2+1,none⟩,.int .i64 (gt r j).2),(⟨g,i*2,none⟩,.int .i64 (gt r i).1),(⟨g,i*2+1,none⟩,.int .i64 (gt r i).2)] (by kernel_rfl) (by kernel_rfl) ⟨Below.refl _ _,by simp only[List.mem_cons,List.not_mem_nil,forall_eq_or_imp,or_false,forall_eq];go_simp⟩ ?_
      repeat
       first
       | go_big_quiet_skip
       | go_big_quiet_want
         apply Exists.intro;refine And.intro ?_ ?_
         ·intro w1 hw1
          have hx:=hw1.2;simp only[List.mem_cons,List.not_mem_nil,forall_eq_or_imp,or_false,forall_eq] at hx
          go_simp
          first|rfl|exact Cg hw1 (L8 _ _ _ _ _ _ _)
         go_simp
         go_big_quiet_on
      refine wpQuiet_nil ?_;intro w1 hCw1;have hb1:=hCw1.1;clear hCw1 q e2 c1 c2 d1 d2 d3 d4 qc;go_wp2_with fail;refine⟨⟨r.take i,?_,by rw[List.length_take];omega,OwS.take (ho.keep hb1) hm (by omega),hB.keep hb1,Ao hb hb1,hne⟩,by simp[Ait];omega⟩
      rw[<-hp,hpy.out,hi]
     ·have qc:(Bo ((gt r j).1,(gt r j).2) ((gt r i).1,(gt r i).2) ((gt l k).1,(gt l k).2)<=0)=False:=by simpa using hcr
      have hpn:=Lib.hid (jr (p:=gt l k) hm (.inr (by rw[hi,hj];exact hcr)))
      go_wp2_with fail;refine Bi wr [(⟨B5,0,none⟩,.int .i64 (gt l k).1),(⟨B5,1,none⟩,.int .i64 (gt l k).2),(⟨g,j*2,none⟩,.int .i64 (gt r j).1),(⟨g,j*2+1,none⟩,.int .i64 (gt r j).2),(⟨g,i*2,none⟩,.int .i64 (gt r i).1),(⟨g,i*2+1,none⟩,.int .i64 (gt r i).2)] (by kernel_rfl) (by kernel_rfl) ⟨Below.refl _ _,by simp only[List.mem_cons,List.not_mem_nil,forall_eq_or_imp,or_false,forall_eq];go_simp⟩ ?_
      repeat
       first
       | go_big_quiet_skip
       | go_big_quiet_want
         apply Exists.intro;refine And.intro ?_ ?_
         ·intro w1 hw1
          have hx:=hw1.2;simp only[List.mem_cons,List.not_mem_nil,forall_eq_or_imp,or_false,forall_eq] at hx
          go_simp
          first|rfl|exact Cg hw1 (L8 _ _ _ _ _ _ _)
         go_simp
         go_big_quiet_on
      refine wpQuiet_nil ?_;intro w1 hCw1;have hb1:=hCw1.1;clear hCw1 q e2 c1 c2 d1 d2 d3 d4 qc;have hk1:I2 l (k+1)=r++[gt l k]:=by rw[I2,<-hp,hpn.out]
      have HK:=Lib.hid hk1;have hB1:=hB.keep hb1;have c1:=hB1.cell 0;have c2:=hB1.cell 1;simp only[List.getElem?_toArray,List.getElem?_cons_zero,List.getElem?_cons_succ] at c1 c2;clear hk1 hcr
      go_wp2_with (at_builtin;refine Ec rfl _ _ rfl w.heap.size _ r rfl ((ho.keep hb1).alloc _) w1.heap.size 1 (gt l k) 49 rfl (Bb.new _ _ _) (by omega) (An (Ao hb hb1) _).size ?_;intro v' w2 ho' hg' hat')
      exact⟨⟨k+1,by omega,by go_num,by rw[HK.out];exact ho',Bm (An (Ao hb hb1) _) ((ho.keep hb1).alloc _) hg'⟩,by simp[intOf];omega⟩
    ·have q:((1:Int)<(m:Int))=False:=by simp;omega
     have hpn:=Lib.hid (jr (p:=gt l k) hm (.inl h1));go_wp2_with fail;refine Bi wr [(⟨B5,0,none⟩,.int .i64 (gt l k).1),(⟨B5,1,none⟩,.int .i64 (gt l k).2)] (by kernel_rfl) (by kernel_rfl) ⟨Below.refl _ _,by simp only[List.mem_cons,List.not_mem_nil,forall_eq_or_imp,or_false,forall_eq];go_simp⟩ ?_
     repeat
      first
      | go_big_quiet_skip
      | go_big_quiet_want
        apply Exists.intro;refine And.intro ?_ ?_
        ·intro w1 hw1
         have hx:=hw1.2;simp only[List.mem_cons,List.not_mem_nil,forall_eq_or_imp,or_false,forall_eq] at hx
         go_simp
         first|rfl|exact Cg hw1 (L8 _ _ _ _ _ _ _)
        go_simp
        go_big_quiet_on
     refine wpQuiet_nil ?_;intro w1 hCw1;have hb1:=hCw1.1;clear hCw1 q c1 c2;have hk1:I2 l (k+1)=r++[gt l k]:=by rw[I2,<-hp,hpn.out]
     have HK:=Lib.hid hk1;have hB1:=hB.keep hb1;have c1:=hB1.cell 0;have c2:=hB1.cell 1;simp only[List.getElem?_toArray,List.getElem?_cons_zero,List.getElem?_cons_succ] at c1 c2;clear hk1
     go_wp2_with (at_builtin;refine Ec rfl _ _ rfl w.heap.size _ r rfl ((ho.keep hb1).alloc _) w1.heap.size 1 (gt l k) 49 rfl (Bb.new _ _ _) (by omega) (An (Ao hb hb1) _).size ?_;intro v' w2 ho' hg' hat')
     exact⟨⟨k+1,by omega,by go_num,by rw[HK.out];exact ho',Bm (An (Ao hb hb1) _) ((ho.keep hb1).alloc _) hg'⟩,by simp[intOf];omega⟩
  ·obtain rfl:n=k:=by omega
   obtain⟨A',c',rfl,hc',_,hA'⟩:=OwG.form2 ho;obtain⟨m,hm⟩:∃m,(I2 l n).length=m:=⟨_,rfl⟩
   have hm0:0<m:=by
    obtain⟨j,rfl⟩:∃j,n=j+1:=⟨n-1,by omega⟩
    rw[<-hm,I2,List.length_append];simp
   have hmn:m<=n:=by rw[<-hm];exact K8 _ _
   rw[hm] at ho hc' hA' ⊢;obtain⟨g,rfl,hg1,hg2⟩:=hA' hm0;have e1:IntKind.i64.wrap ((m:Int)-1)=((m-1:Nat):Int):=(Gx _ (by omega) (by omega)).trans (by omega)
   have HB:=Lib.hid (show Ot l=(I2 l n).take (m-1) by unfold Ot;rw[hs.1,hm])
   have HM:=Lib.hid hm;clear hm;go_wp2_with fail;go_ret;refine⟨_,rfl,?_,hb⟩;rw[HB.out];have ht:=OwS.take ho HM.out (k:=m-1) (by omega)
   exact ht
end
end Go.Proofs.YtpbchbcdgikonaaGreat

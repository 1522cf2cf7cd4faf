/- Lean texts of the claim. -/
import Derived.Test.YtpbchbcdgikonaaGreatQ19
namespace Go.Proofs.YtpbchbcdgikonaaGreat
set_option linter.unusedVariables false
set_option linter.unusedSimpArgs false
set_option maxRecDepth 100000
set_option maxHeartbeats 4000000
open Go.RowKit
section
def StS (w:World) (A:Option Addr) (n:Nat) (l:List ByteArray):Prop:=l.length=n/\(n=0\/∃b off,A=some ⟨b,off,none⟩/\∀k,k<n->w.cell? ⟨b,off+k,none⟩=some (.string (gb l k))/\(gb l k).size<=9223372036854775807)
def Aig (w:World) (b o:Nat) (e:EdgeP):Prop:=w.cell? ⟨b,o,none⟩=some (.string e.nm)/\∃A c,w.cell? ⟨b,o+1,none⟩=some (.slice A e.ln.length c)/\e.ln.length<=c/\c<=9223372036854775807/\SpS w A e.ln.length e.ln
def EdS (w:World) (A:Option Addr) (n:Nat) (E:List EdgeP):Prop:=E.length=n/\(n=0\/∃b off,A=some ⟨b,off,none⟩/\∀k,k<n->Aig w b (off+k*2) (edg E k))
def PcV (w:World) (vs:Array Value) (p:PieceP):Prop:=∃A1 c1 A2 c2 A3 c3 A4 c4,vs=#[.string p.nm,.slice A1 p.ed.length c1,.int .i64 p.gr,.slice A2 p.nt.length c2,.slice A3 p.cr.length c3,.slice A4 p.wd.length c4,.bool p.mt] /\
 (p.ed.length<=c1/\c1<=9223372036854775807/\EdS w A1 p.ed.length p.ed)/\(p.nt.length<=c2/\c2<=9223372036854775807/\SpS w A2 p.nt.length p.nt)/\(p.cr.length<=c3/\c3<=9223372036854775807/\SpS w A3 p.cr.length p.cr)/\(p.wd.length<=c4/\c4<=9223372036854775807/\InS w A4 p.wd.length p.wd)
def PcS (w:World) (A:Option Addr) (n:Nat) (P:List PieceP):Prop:=P.length=n/\(n=0\/∃b off,A=some ⟨b,off,none⟩/\∀k,k<n->∃vs,PcV w vs (pce P k)/\∀j u,vs[j]? = some u->w.cell? ⟨b,off+k*7+j,none⟩=some u)
def UsS (w:World) (A:Option Addr) (n:Nat) (U:List UseP):Prop:=U.length=n/\(n=0\/∃b off,A=some ⟨b,off,none⟩/\∀k,k<n->w.cell? ⟨b,off+k*3,none⟩=some (.int .i64 (use U k).pc)/\w.cell? ⟨b,off+k*3+1,none⟩=some (.int .i64 (use U k).ct)/\w.cell? ⟨b,off+k*3+2,none⟩=some (.bool (use U k).pr))
def SeS (w:World) (A:Option Addr) (n:Nat) (U:List SeamP):Prop:=U.length=n/\(n=0\/∃b off,A=some ⟨b,off,none⟩/\∀k,k<n->w.cell? ⟨b,off+k*6,none⟩=some (.int .i64 (sem U k).pa)/\w.cell? ⟨b,off+k*6+1,none⟩=some (.int .i64 (sem U k).ea)/\w.cell? ⟨b,off+k*6+2,none⟩=some (.int .i64 (sem U k).pb)/\w.cell? ⟨b,off+k*6+3,none⟩=some (.int .i64 (sem U k).eb)/\w.cell? ⟨b,off+k*6+4,none⟩=some (.bool (sem U k).rv)/\w.cell? ⟨b,off+k*6+5,none⟩=some (.int .i64 (sem U k).es))
def StV (w:World) (vs:Array Value) (s:StyleP):Prop:=∃A1 c1 A2 c2 A3 c3 A4 c4 A5 c5 A6 c6,vs=#[.string s.nm,.slice A1 s.sz.length c1,.slice A2 s.mu.length c2,.slice A3 s.pc.length c3,.slice A4 s.us.length c4,.slice A5 s.se.length c5,.slice A6 s.no c6] /\
 (s.sz.length<=c1/\c1<=9223372036854775807/\StS w A1 s.sz.length s.sz)/\(s.mu.length<=c2/\c2<=9223372036854775807/\InS w A2 s.mu.length s.mu)/\(s.pc.length<=c3/\c3<=9223372036854775807/\PcS w A3 s.pc.length s.pc)/\(s.us.length<=c4/\c4<=9223372036854775807/\UsS w A4 s.us.length s.us)/\(s.se.length<=c5/\c5<=9223372036854775807/\SeS w A5 s.se.length s.se)/\(s.no<=c6/\c6<=9223372036854775807)
section
variable {w w' : World} {A : Option Addr} {n : Nat}
theorem StS.keep {l:List ByteArray} (h:StS w A n l) (hb:Below w.heap.size w w'):StS w' A n l:=by
 refine⟨h.1,?_⟩;rcases h.2 with h2|⟨b,off,rfl,h2⟩
 ·exact .inl h2
 ·exact .inr ⟨b,off,rfl,fun k hk=>⟨Aq hb (h2 k hk).1,(h2 k hk).2⟩⟩
theorem StS.at_ {l:List ByteArray} (h:StS w A n l) {k:Nat} (hk:k<n):∃b off,A=some ⟨b,off,none⟩/\w.cell? ⟨b,off+k,none⟩=some (.string (gb l k))/\(gb l k).size<=9223372036854775807:=by
 rcases h.2 with h2|⟨b,off,rfl,h2⟩
 ·omega
 ·exact⟨b,off,rfl,h2 k hk⟩
theorem Aig.keep {b o:Nat} {e:EdgeP} (h:Aig w b o e) (hb:Below w.heap.size w w'):Aig w' b o e:=by
 obtain⟨h1,A,c,h2,h3,h4,h5⟩:=h;exact⟨Aq hb h1,A,c,Aq hb h2,h3,h4,h5.keep hb⟩
theorem EdS.keep {E:List EdgeP} (h:EdS w A n E) (hb:Below w.heap.size w w'):EdS w' A n E:=by
 refine⟨h.1,?_⟩;rcases h.2 with h2|⟨b,off,rfl,h2⟩
 ·exact .inl h2
 ·exact .inr ⟨b,off,rfl,fun k hk=>(h2 k hk).keep hb⟩
theorem EdS.at_ {E:List EdgeP} (h:EdS w A n E) {k:Nat} (hk:k<n):∃b off,A=some ⟨b,off,none⟩/\∀k,k<n->Aig w b (off+k*2) (edg E k):=by
 rcases h.2 with h2|⟨b,off,rfl,h2⟩
 ·omega
 ·exact⟨b,off,rfl,h2⟩
theorem PcV.keep {vs:Array Value} {p:PieceP} (h:PcV w vs p) (hb:Below w.heap.size w w'):PcV w' vs p:=by
 obtain⟨A1,c1,A2,c2,A3,c3,A4,c4,e,⟨h1,h1',h1''⟩,⟨h2,h2',h2''⟩,⟨h3,h3',h3''⟩,h4,h4',h4''⟩:=h;exact⟨A1,c1,A2,c2,A3,c3,A4,c4,e,⟨h1,h1',h1''.keep hb⟩,⟨h2,h2',h2''.keep hb⟩,⟨h3,h3',h3''.keep hb⟩,h4,h4',h4''.keep hb⟩
theorem PcS.keep {P:List PieceP} (h:PcS w A n P) (hb:Below w.heap.size w w'):PcS w' A n P:=by
 refine⟨h.1,?_⟩;rcases h.2 with h2|⟨b,off,rfl,h2⟩
 ·exact .inl h2
 ·refine .inr ⟨b,off,rfl,fun k hk=>?_⟩
  obtain⟨vs,g1,g2⟩:=h2 k hk;exact⟨vs,g1.keep hb,fun j u hu=>Aq hb (g2 j u hu)⟩
theorem PcS.at_ {P:List PieceP} (h:PcS w A n P) {k:Nat} (hk:k<n):∃b off,A=some ⟨b,off,none⟩/\∃vs,PcV w vs (pce P k)/\∀j u,vs[j]? = some u->w.cell? ⟨b,off+k*7+j,none⟩=some u:=by
 rcases h.2 with h2|⟨b,off,rfl,h2⟩
 ·omega
 ·exact⟨b,off,rfl,h2 k hk⟩
theorem UsS.keep {U:List UseP} (h:UsS w A n U) (hb:Below w.heap.size w w'):UsS w' A n U:=by
 refine⟨h.1,?_⟩;rcases h.2 with h2|⟨b,off,rfl,h2⟩
 ·exact .inl h2
 ·exact .inr ⟨b,off,rfl,fun k hk=>⟨Aq hb (h2 k hk).1,Aq hb (h2 k hk).2.1,Aq hb (h2 k hk).2.2⟩⟩
theorem UsS.at_ {U:List UseP} (h:UsS w A n U) {k:Nat} (hk:k<n):∃b off,A=some ⟨b,off,none⟩/\w.cell? ⟨b,off+k*3,none⟩=some (.int .i64 (use U k).pc)/\w.cell? ⟨b,off+k*3+1,none⟩=some (.int .i64 (use U k).ct)/\w.cell? ⟨b,off+k*3+2,none⟩=some (.bool (use U k).pr):=by
 rcases h.2 with h2|⟨b,off,rfl,h2⟩
 ·omega
 ·exact⟨b,off,rfl,h2 k hk⟩
theorem SeS.keep {U:List SeamP} (h:SeS w A n U) (hb:Below w.heap.size w w'):SeS w' A n U:=by
 refine⟨h.1,?_⟩;rcases h.2 with h2|⟨b,off,rfl,h2⟩
 ·exact .inl h2
 ·refine .inr ⟨b,off,rfl,fun k hk=>?_⟩
  obtain⟨g1,g2,g3,g4,g5,g6⟩:=h2 k hk;exact⟨Aq hb g1,Aq hb g2,Aq hb g3,Aq hb g4,Aq hb g5,Aq hb g6⟩
theorem SeS.at_ {U:List SeamP} (h:SeS w A n U) {k:Nat} (hk:k<n):∃b off,A=some ⟨b,off,none⟩/\w.cell? ⟨b,off+k*6,none⟩=some (.int .i64 (sem U k).pa)/\w.cell? ⟨b,off+k*6+1,none⟩=some (.int .i64 (sem U k).ea)/\w.cell? ⟨b,off+k*6+2,none⟩=some (.int .i64 (sem U k).pb)/\w.cell? ⟨b,off+k*6+3,none⟩=some (.int .i64 (sem U k).eb)/\w.cell? ⟨b,off+k*6+4,none⟩=some (.bool (sem U k).rv)/\w.cell? ⟨b,off+k*6+5,none⟩=some (.int .i64 (sem U k).es):=by
 rcases h.2 with h2|⟨b,off,rfl,h2⟩
 ·omega
 ·exact⟨b,off,rfl,h2 k hk⟩
theorem StV.keep {vs:Array Value} {s:StyleP} (h:StV w vs s) (hb:Below w.heap.size w w'):StV w' vs s:=by
 obtain⟨A1,c1,A2,c2,A3,c3,A4,c4,A5,c5,A6,c6,e,⟨h1,h1',h1''⟩,⟨h2,h2',h2''⟩,⟨h3,h3',h3''⟩,⟨h4,h4',h4''⟩,⟨h5,h5',h5''⟩,h6⟩:=h;exact⟨A1,c1,A2,c2,A3,c3,A4,c4,A5,c5,A6,c6,e,⟨h1,h1',h1''.keep hb⟩,⟨h2,h2',h2''.keep hb⟩,⟨h3,h3',h3''.keep hb⟩,⟨h4,h4',h4''.keep hb⟩,⟨h5,h5',h5''.keep hb⟩,h6⟩
theorem y9 {E:List EdgeP} {i k:Nat} (h:k<i):edg (E.take i) k=edg E k:=by
 unfold edg;simp[List.getD,List.getElem?_take,h]
theorem EdS.take {E:List EdgeP} (h:EdS w A n E) {i:Nat} (hi:i<=n):EdS w A i (E.take i):=by
 refine⟨by rw[List.length_take,h.1];omega,?_⟩
 rcases h.2 with h2|⟨b,off,rfl,h2⟩
 ·exact .inl (by omega)
 ·refine .inr ⟨b,off,rfl,fun k hk=>?_⟩
  rw[y9 hk];exact h2 k (by omega)
theorem Xr {E:List PieceP} {i k:Nat} (h:k<i):pce (E.take i) k=pce E k:=by
 unfold pce;simp[List.getD,List.getElem?_take,h]
theorem PcS.take {E:List PieceP} (h:PcS w A n E) {i:Nat} (hi:i<=n):PcS w A i (E.take i):=by
 refine⟨by rw[List.length_take,h.1];omega,?_⟩
 rcases h.2 with h2|⟨b,off,rfl,h2⟩
 ·exact .inl (by omega)
 ·refine .inr ⟨b,off,rfl,fun k hk=>?_⟩
  rw[Xr hk];exact h2 k (by omega)
end
end
theorem Sb {E:List EdgeP} {n:Nat} (h2:∀k,k<n->1<=(edg E k).ln.length/\(edg E k).ln.length<=40) {k:Nat} (hk:k<=n):(G4 E k).length<=k*40:=O6 fun i hi=>(h2 i (by omega)).2
theorem Ta (A:Option Addr) (cap n:Nat) (E:List EdgeP) (w:World) (hn:n<=16) (hE:EdS w A n E) (h2:∀k,k<n->1<=(edg E k).ln.length/\(edg E k).ln.length<=40) :
 Calls Tryz.prog 76 #[.slice A n cap] w (Zk w (Ck E)):=by
 have HV:=Lib.hid (show Ck E=G4 E n by unfold Ck;rw[hE.1])
 have H2:=Lib.hid h2;have HL:=Lib.hid (fun k (hk:k<=n)=>Sb h2 hk)
 clear h2;go_enter Tryz.func76,Tryz.ntmps76;go_upto_region 3 with fail;go_loopw [3,5,8] (fun v _ i wr=>∃k:Nat,k<=n/\i=.int .i64 k/\OwS wr w.heap.size v (G4 E k)/\Below w.heap.size w wr) (fun _ _ i _=>n-(intOf i).toNat)
 case atStart=>exact⟨0,Nat.zero_le _,rfl,OwG.nil,Below.refl _ _⟩
 case round =>
  obtain⟨k,hk,rfl,ho,hb⟩:=hrel;by_cases hlt:k<n
  ·obtain⟨b,off,rfl,hc⟩:=(hE.keep hb).at_ hlt
   obtain⟨c0,Al,cl,c1,q1,q2,q3⟩:=hc k hlt;have hst:=Lib.hid (show G4 E (k+1)=G4 E k++Afl (edg E k).ln from rfl)
   obtain⟨g1,g2⟩:=H2.out k hlt;have hlen:=HL.out k hk;obtain⟨l,hl⟩:∃l,(edg E k).ln=l:=⟨_,rfl⟩
   rw[hl] at c1 q1 q3 g1 g2 hst;obtain⟨m,hm⟩:∃m,l.length=m+1:=⟨l.length-1,by omega⟩
   have HB:=Lib.hid (show Afl l=l.take m by unfold Afl;rw[hm];rfl)
   rw[hm] at c1 q1 q3 g1 g2;rw[HB.out] at hst;obtain⟨nm,hnm⟩:∃s,(edg E k).nm=s:=⟨_,rfl⟩
   rw[hnm] at c0;clear hc hl hm hnm HB;obtain⟨bl,ol,rfl,-,-⟩:=q3.at_ (show 0<m+1 by omega)
   have q4:=q3.take (show m<=m+1 by omega)
   have E1:((m+1:Nat):Int)-1=(m:Int):=by omega
   have W1:IntKind.i64.wrap (((m+1:Nat):Int)-1)=(m:Int):=by rw[IntKind.wrap_i64];omega
   go_upto_region 5 with fail;refine Ar (fun X=>Below wr.heap.size wr X/\Bb X wr.heap.size 101 #[.string nm,.slice (some ⟨bl,ol,none⟩) (m+1) cl]) ⟨An (Below.refl _ _) _,Bb.new _ _ _⟩ ?_
   rintro X ⟨hbX,hP⟩;have p0:X.cell? ⟨wr.heap.size,0,none⟩=some (.string nm):=(hP.cell 0).trans rfl;have p1:X.cell? ⟨wr.heap.size,1,none⟩=some (.slice (some ⟨bl,ol,none⟩) (m+1) cl):=(hP.cell 1).trans rfl
   go_wp2_with (at_builtin;refine Ff rfl _ _ rfl w.heap.size _ (G4 E k) rfl (OwG.keep ho hbX) (some ⟨bl,ol,none⟩) m cl (l.take m) rfl (q4.keep hbX) (fun h=>by cases h) (by omega) (Ao hb hbX).size ?_;intro v' w' ho' hg' hat')
   exact⟨⟨k+1,by omega,by go_num,by rw[hst.out];exact ho',Bm (Ao hb hbX) (OwG.keep ho hbX) hg'⟩,by simp[intOf];omega⟩
  ·obtain rfl:n=k:=by omega
   go_wp2_with fail;go_ret;exact⟨_,rfl,by rw[HV.out];exact ho,hb⟩
namespace Limb
def BB:Nat:=4294967296
def val:List Nat->Nat
 | []=>0
 | x::l=>x+BB*val l
def lmb (n:Nat):List Nat:=if h:n=0 then [] else n % BB::lmb (n / BB)
termination_by n
decreasing_by unfold BB;omega
theorem Cs:lmb 0=[]:=by rw[lmb];simp
theorem Gd {n:Nat} (h:n≠0):lmb n=n % BB::lmb (n / BB):=by rw[lmb,dif_neg h]
theorem Ew (n:Nat):val (lmb n)=n:=by
 induction n using Nat.strongRecOn with
 | _ n ih =>
   by_cases h:n=0
   ·rw[h,Cs];rfl
   ·rw[Gd h,val,ih (n / BB) (by unfold BB;omega)]
    exact Nat.mod_add_div n BB
theorem Jo (n:Nat):∀x∈lmb n,x<BB:=by
 induction n using Nat.strongRecOn with
 | _ n ih =>
   by_cases h:n=0
   ·rw[h,Cs];simp
   ·rw[Gd h]
    intro x hx;rcases List.mem_cons.1 hx with rfl|hx
    ·exact Nat.mod_lt _ (by decide)
    ·exact ih (n / BB) (by unfold BB;omega) x hx
theorem I8 (a b:List Nat):val (a++b)=val a+BB ^ a.length*val b:=by
 induction a with
 | nil=>simp[val]
 | cons x a ih=>rw[List.cons_append,val,val,ih,List.length_cons,Nat.pow_succ,Nat.mul_add];rw[show BB*(BB ^ a.length*val b)=BB ^ a.length*BB*val b by rw[<-Nat.mul_assoc,Nat.mul_comm BB]];omega
theorem Sc {l:List Nat} (h:∀x∈l,x<BB):val l<BB ^ l.length:=by
 induction l with
 | nil=>simp[val]
 | cons x l ih =>
   have h1:=h x (by simp)
   have h2:=ih (fun y hy=>h y (by simp[hy]))
   rw[val,List.length_cons,Nat.pow_succ];have:=Nat.mul_le_mul_left BB (show val l+1<=BB ^ l.length from h2)
   rw[Nat.mul_add,Nat.mul_one] at this;rw[Nat.mul_comm (BB ^ l.length)];omega
theorem G5 (k:Nat):val (List.replicate k 0)=0:=by
 induction k with
 | zero=>rfl
 | succ k ih=>rw[List.replicate_succ,val,ih];rfl
theorem kv:∀{l:List Nat},(∀x∈l,x<BB)->(∀h:l≠[],l.getLast h≠0)->lmb (val l)=l
 | [],_,_=>Cs
 | x::l,h,hl=>by
   have h1:=h x (by simp)
   have ih:=kv (l:=l) (fun y hy=>h y (by simp[hy])) (fun hne=>by
    have:=hl (by simp)
    rwa [List.getLast_cons hne] at this)
   have hne:val (x::l)≠0:=by
    intro e;rw[val] at e;have e1:x=0:=by omega
    have e2:BB*val l=0:=by omega
    have e3:val l=0:=by rcases Nat.mul_eq_zero.1 e2 with g|g;(unfold BB at g;omega);exact g
    rw[e3,Cs] at ih;subst ih;have:=hl (by simp)
    simp at this;exact this e1
   rw[Gd hne,val];have m1:(x+BB*val l) % BB=x:=by rw[Nat.add_mul_mod_self_left];exact Nat.mod_eq_of_lt h1
   have m2:(x+BB*val l) / BB=val l:=by rw[Nat.add_mul_div_left _ _ (by decide),Nat.div_eq_of_lt h1,Nat.zero_add]
   rw[m1,m2,ih]
def trl:List Nat->Nat->Nat
 | _,0=>0
 | l,k+1=>if l.getD k 0=0 then trl l k else k+1
theorem Wt (l:List Nat):∀k,trl l k<=k
 | 0=>Nat.le_refl _
 | k+1=>by rw[trl];split;exact Nat.le_trans (Wt l k) (by omega);omega
theorem fj {l:List Nat} (h:∀x∈l,x<BB):∀k,k<=l.length->l.take (trl l k)=lmb (val (l.take k))
 | 0,_=>by simp[trl,val,Cs]
 | k+1,hk=>by
   have hg:l.getD k 0=l[k]'(by omega):=by rw[List.getD,List.getElem?_eq_getElem (by omega)];rfl
   have e:l.take (k+1)=l.take k++[l[k]'(by omega)]:=List.take_succ_eq_append_getElem (by omega)
   rw[trl];split
   ·rename_i z
    rw[fj h k (by omega),e,<-hg,z,I8]
    simp[val]
   ·rename_i z
    symm
    apply kv
    ·intro x hx;exact h x (List.mem_of_mem_take hx)
    ·intro hne
     have aux:∀(a c:List Nat) (x:Nat) (ha:a≠[]),a=c++[x]->a.getLast ha=x:=by
      intro a c x ha e2;subst e2;simp
     rw[aux _ _ _ hne e,<-hg];exact z
theorem X9 {n:Nat} (h:n≠0):(lmb n).getD ((lmb n).length-1) 0≠0:=by
 induction n using Nat.strongRecOn with
 | _ n ih =>
   rw[Gd h];by_cases c:n / BB=0
   ·rw[c,Cs]
    simp;have:=Nat.div_add_mod n BB;rw[c] at this;omega
   ·have:=ih (n / BB) (by unfold BB;omega) c
    rw[Gd c] at this ⊢;simpa using this
theorem Ex (n:Nat):trl (lmb n) (lmb n).length=(lmb n).length:=by
 by_cases h:n=0
 ·rw[h,Cs];rfl
 ·have hl:=X9 h
  rw[Gd h] at hl ⊢;rw[List.length_cons] at hl ⊢;rw[trl,if_neg (by simpa using hl)]
theorem Ah5 {U V T H P q:Nat} (hP:0<P) (hV:H*P<=V) (hU:U<(T+1)*P) (hH:0<H) (hq:q*V<=U):q<=T / H:=by
 rw[Nat.le_div_iff_mul_le hH]
 have h1:q*H*P<(T+1)*P:=by
  have:=Nat.mul_le_mul_left q hV;rw[<-Nat.mul_assoc] at this;omega
 have:=Nat.lt_of_mul_lt_mul_right h1;omega
theorem Aek {U V U3 V2 P q t:Nat} (hV:V2*P<=V) (hU:U<(U3+1)*P) (ht:U3<t*V2) (hq:q*V<=U):q<t:=by
 apply Classical.byContradiction;intro hc;have h1:t*V<=q*V:=Nat.mul_le_mul_right V (by omega)
 have h2:=Nat.mul_le_mul_left t hV;rw[<-Nat.mul_assoc] at h2;have h3:=Nat.mul_le_mul_right P (show U3+1<=t*V2 from ht)
 omega
theorem Ah4 {U V U3 V2 P q t:Nat} (hV:V<(V2+1)*P) (hU:U3*P<=U) (ht:t*V2<=U3) (htb:t<BB) (hVb:BB*P<=V) (hP:0<P) (hq:U<(q+1)*V):t<=q+1:=by
 apply Classical.byContradiction;intro hc;have h1:(q+1)*V<=(t-1)*V:=Nat.mul_le_mul_right V (by omega)
 have h2:t*V<=t*((V2+1)*P):=Nat.mul_le_mul_left t (Nat.le_of_lt hV);have h3:t*((V2+1)*P)=t*V2*P+t*P:=by rw[<-Nat.mul_assoc,Nat.mul_add,Nat.mul_one,Nat.add_mul]
 have h4:=Nat.mul_le_mul_right P ht;have h5:t*P<BB*P:=Nat.mul_lt_mul_of_pos_right htb hP;have h6:(t-1)*V+V=t*V:=by rw[show t=t-1+1 by omega,Nat.add_mul,Nat.one_mul];simp
 omega
end Limb
section
open Go.RowKit Limb
def gu (l:List Nat) (k:Nat):Nat:=l.getD k 0
theorem Lr {l:List Nat} {k:Nat} (h:k<l.length):l[k]? = some (gu l k):=by
 unfold gu;rw[List.getD,List.getElem?_eq_getElem h];rfl
def G3 (w:World) (A:Option Addr) (n:Nat) (l:List Nat):Prop:=l.length=n/\(n=0\/∃b off,A=some ⟨b,off,none⟩/\∀k,k<n->w.cell? ⟨b,off+k,none⟩=some (.int .u32 (gu l k:Int)))
theorem G3.keep {w w':World} {A:Option Addr} {n:Nat} {l:List Nat} (h:G3 w A n l) (hb:Below w.heap.size w w'):G3 w' A n l:=by
 refine⟨h.1,?_⟩;obtain⟨_,h2⟩:=h;rcases h2 with h2|⟨b,off,rfl,h2⟩
 ·exact .inl h2
 ·exact .inr ⟨b,off,rfl,fun k hk=>Aq hb (h2 k hk)⟩
theorem G3.at_ {w:World} {A:Option Addr} {n:Nat} {l:List Nat} (h:G3 w A n l) {k:Nat} (hk:k<n):∃b off,A=some ⟨b,off,none⟩/\w.cell? ⟨b,off+k,none⟩=some (.int .u32 (gu l k:Int)):=by
 obtain⟨_,h2⟩:=h;rcases h2 with h2|⟨b,off,rfl,h2⟩
 ·omega
 ·exact⟨b,off,rfl,h2 k hk⟩
theorem G3.take {w:World} {A:Option Addr} {n m:Nat} {l:List Nat} (h:G3 w A n l) (hm:m<=n):G3 w A m (l.take m):=by
 obtain⟨h1,h2⟩:=h;refine⟨by rw[List.length_take];omega,?_⟩
 rcases h2 with h2|⟨b,off,rfl,h2⟩
 ·exact .inl (by omega)
 ·refine .inr ⟨b,off,rfl,fun k hk=>?_⟩
  have:gu (l.take m) k=gu l k:=by unfold gu;rw[List.getD,List.getD,List.getElem?_take_of_lt hk]
  rw[this];exact h2 k (by omega)
def enU (z:Nat):List Value:=[.int .u32 (z:Int)]
theorem J4 (z:Nat):(enU z).length=1:=rfl
theorem Lu (z:Nat):∀u∈enU z,u.oneCell'=true:=by
 intro u hu;simp[enU] at hu;subst hu;rfl
def OwU (w:World) (base:Nat) (v:Value) (l:List Nat):Prop:=OwG 270 1 enU w base v l
theorem Q9:(Tryz.prog.info? 270).map (fun i=>(i.zero,i.size,i.bytes))=some (some (.int .u32 0),1,4):=by kernel_rfl
def Cq (w:World) (base:Nat) (v:Value) (a:Nat):Prop:=∃A c,v=.slice A (lmb a).length c/\(lmb a).length<=c/\c<=maxLen/\G3 w A (lmb a).length (lmb a)/\(A=none->c=0)/\∀p,A=some p->base<=p.block
theorem Cq.keep {w w':World} {base:Nat} {v:Value} {a:Nat} (h:Cq w base v a) (hb:Below w.heap.size w w'):Cq w' base v a:=by
 obtain⟨A,c,e,h1,h2,h3,h4,h5⟩:=h;exact⟨A,c,e,h1,h2,h3.keep hb,h4,h5⟩
theorem Cq.lower {w:World} {base base':Nat} {v:Value} {a:Nat} (h:Cq w base v a) (hb:base'<=base):Cq w base' v a:=by
 obtain⟨A,c,e,h1,h2,h3,h4,h5⟩:=h;exact⟨A,c,e,h1,h2,h3,h4,fun p hp=>Nat.le_trans hb (h5 p hp)⟩
end
section
open Go.RowKit Limb
theorem Ai7 {l:List Nat} {k:Nat} (h:gu l k=0):trl l (k+1)=trl l k:=by unfold gu at h;rw[trl,if_pos h]
theorem Afx {l:List Nat} {k:Nat} (h:¬gu l k=0):trl l (k+1)=k+1:=by unfold gu at h;rw[trl,if_neg h]
theorem Bv (A:Option Addr) (cap n:Nat) (l:List Nat) (w:World) (hn:n<=1000000) (hc:n<=cap) (hs:G3 w A n l) :
 Calls Tryz.prog 172 #[.slice A n cap] w fun e w'=>e=.returned (.slice A (trl l n) cap)/\Below w.heap.size w w':=by
 go_enter Tryz.func172,Tryz.ntmps172;go_wp2_with fail;go_loopw [3] (fun i wr=>∃k:Nat,k<=n/\i=.int .i64 k/\Hid (trl l n=trl l k)/\Below w.heap.size w wr) (fun i _=>(intOf i).toNat)
 case atStart=>exact⟨n,Nat.le_refl _,rfl,Lib.hid rfl,Below.refl _ _⟩
 case round =>
  obtain⟨k,hk,rfl,ht,hb⟩:=hrel;cases k with
  | zero =>
    have HT:=Lib.hid (show trl l n=0 by rw[ht.out];rfl)
    go_wp2_with fail;go_ret;exact⟨by rw[HT.out];rfl,hb⟩
  | succ k =>
    obtain⟨b,off,rfl,h1⟩:=(hs.keep hb).at_ (show k<n by omega)
    have z1:((k+1:Nat):Int)-1=(k:Int):=by omega
    have z2:(0:Int)<((k+1:Nat):Int):=by omega
    have z3:(0:Int)<=(k:Int):=by omega
    have z4:(k:Int)<(n:Int):=by omega
    obtain⟨z,hzz⟩:∃z:Int,((gu l k:Nat):Int)=z:=⟨_,rfl⟩
    rw[hzz] at h1;by_cases hz:z=0
    ·have HT:=Lib.hid (show trl l n=trl l k by rw[ht.out];exact Ai7 (by omega))
     rw[hz] at h1;clear hzz;go_wp2_with fail;exact⟨⟨k,by omega,by go_num,HT,hb⟩,by simp[intOf]⟩
    ·have HT:=Lib.hid (show trl l n=k+1 by rw[ht.out];exact Afx (by omega))
     have hz2:(z == 0)=false:=by simpa using hz
     clear hzz;go_wp2_with fail;go_ret;exact⟨by rw[HT.out];rfl,hb⟩
end
namespace Limb
theorem Tk (n:Nat):n<BB ^ (lmb n).length:=by have:=Sc (Jo n);rwa [Ew] at this
theorem Vh {n:Nat} (h:n≠0):BB ^ ((lmb n).length-1)<=n:=by
 induction n using Nat.strongRecOn with
 | _ n ih =>
   rw[Gd h,List.length_cons,Nat.add_sub_cancel];by_cases c:n / BB=0
   ·rw[c,Cs];simp;omega
   ·have h1:=ih (n / BB) (by unfold BB;omega) c
    have hl:0<(lmb (n / BB)).length:=by rw[Gd c];simp
    have h2:=Nat.mul_le_mul_right BB h1;rw[<-Nat.pow_succ,show ((lmb (n / BB)).length-1).succ=(lmb (n / BB)).length by omega] at h2
    exact Nat.le_trans h2 (Nat.div_mul_le_self n BB)
theorem Lo {a b:Nat} (h:(lmb a).length<(lmb b).length):a<b:=by
 have hb:b≠0:=by intro e;rw[e,Cs] at h;simp at h
 have h1:=Tk a;have h2:=Vh hb;have h3:BB ^ (lmb a).length<=BB ^ ((lmb b).length-1):=Nat.pow_le_pow_right (by decide) (by omega)
 omega
theorem Pu {a b:Nat} (h:a<=b):(lmb a).length<=(lmb b).length:=by
 rcases Nat.lt_or_ge (lmb b).length (lmb a).length with g|g
 ·have:=Lo g;omega
 ·exact g
theorem Pt {a k:Nat} (h:a<BB ^ k):(lmb a).length<=k:=by
 by_cases h0:a=0
 ·rw[h0,Cs];simp
 ·apply Classical.byContradiction
  intro hc;have h2:=Vh h0;have h3:BB ^ k<=BB ^ ((lmb a).length-1):=Nat.pow_le_pow_right (by decide) (by omega)
  omega
theorem Wq {l:List Nat} {k:Nat} (hk:k<l.length):val (l.take (k+1))=val (l.take k)+BB ^ k*l.getD k 0:=by
 have hg:l.getD k 0=l[k]:=by rw[List.getD,List.getElem?_eq_getElem hk];rfl
 rw[List.take_succ_eq_append_getElem hk,I8,hg,List.length_take,Nat.min_eq_left (by omega)]
 simp[val]
theorem Lg {l:List Nat} (h:∀x∈l,x<BB) {k:Nat} (hk:k<=l.length):val (l.take k)<BB ^ k:=by
 have:=Sc (l:=l.take k) (fun x hx=>h x (List.mem_of_mem_take hx))
 rwa [List.length_take,Nat.min_eq_left hk] at this
def qd (a b:List Nat):Nat->Int
 | 0=>0
 | k+1=>if a.getD k 0<b.getD k 0 then -1 else if b.getD k 0<a.getD k 0 then 1 else qd a b k
def Ld (a b:Nat):Int:=if a<b then -1 else if b<a then 1 else 0
theorem Yu {a b:List Nat} (ha:∀x∈a,x<BB) (hb:∀x∈b,x<BB):∀k,k<=a.length->k<=b.length->qd a b k=Ld (val (a.take k)) (val (b.take k))
 | 0,_,_=>by simp[qd,Ld,val]
 | k+1,h1,h2=>by
   have ih:=Yu ha hb k (by omega) (by omega)
   rw[qd,Wq (by omega),Wq (by omega),ih]
   have la:=Lg ha (k:=k) (by omega)
   have lb:=Lg hb (k:=k) (by omega)
   generalize val (a.take k)=x at *
   generalize val (b.take k)=y at *
   generalize a.getD k 0=p;generalize b.getD k 0=q;generalize BB ^ k=B at *
   unfold Ld;rcases Nat.lt_trichotomy p q with c|c|c
   ·have:=Nat.mul_le_mul_left B (show p+1<=q from c)
    rw[Nat.mul_add,Nat.mul_one] at this;rw[if_pos c,if_pos (by omega)]
   ·subst c
    rw[if_neg (Nat.lt_irrefl p),if_neg (Nat.lt_irrefl p)];simp only[Nat.add_lt_add_iff_right]
   ·have:=Nat.mul_le_mul_left B (show q+1<=p from c)
    rw[Nat.mul_add,Nat.mul_one] at this;rw[if_neg (by omega),if_pos c,if_neg (by omega),if_pos (by omega)]
theorem Aet {a b:Nat}:Ld a b=if (lmb a).length<(lmb b).length then -1 else if (lmb b).length<(lmb a).length then 1 else qd (lmb a) (lmb b) (lmb a).length:=by
 split
 ·rename_i h
  have:=Lo h;unfold Ld;rw[if_pos this]
 ·split
  ·rename_i h
   have:=Lo h;unfold Ld;rw[if_neg (by omega),if_pos this]
  ·rename_i h1 h2
   rw[Yu (Jo a) (Jo b) _ (Nat.le_refl _) (by omega),List.take_length,Ew,show (lmb a).length=(lmb b).length by omega,List.take_length,Ew]
def lim (a k:Nat):Nat:=(lmb a).getD k 0
theorem Abk (a:Nat):∀k,lim a k=a / BB ^ k % BB:=by
 induction a using Nat.strongRecOn with
 | _ a ih =>
   intro k;unfold lim;by_cases h:a=0
   ·rw[h,Cs];simp
   ·rw[Gd h]
    cases k with
    | zero=>simp
    | succ k =>
      have:=ih (a / BB) (by unfold BB;omega) k
      unfold lim at this;rw[List.getD_cons_succ,this,Nat.div_div_eq_div_mul,Nat.pow_succ,Nat.mul_comm BB]
theorem Cd (a k:Nat):a % BB ^ (k+1)=a % BB ^ k+BB ^ k*lim a k:=by
 rw[Abk,Nat.pow_succ,Nat.mod_mul]
end Limb
section
open Go.RowKit Limb
theorem G3.trim {w:World} {A:Option Addr} {n:Nat} {l:List Nat} (h:G3 w A n l) (hl:∀x∈l,x<BB):G3 w A (trl l n) (lmb (val l))/\(lmb (val l)).length=trl l n:=by
 have e:=fj hl n (by rw[h.1];exact Nat.le_refl _)
 have t:=h.take (Wt l n);rw[show l.take n=l from List.take_of_length_le (by rw[h.1];exact Nat.le_refl _)] at e
 rw[e] at t;exact⟨t,t.1⟩
theorem Kj {w:World} {base c n:Nat} {A:Option Addr} {l:List Nat} (h:G3 w A n l) (hl:∀x∈l,x<BB) (hc:n<=c) (hc2:c<=maxLen) (h0:A=none->c=0) (hb:∀p,A=some p->base<=p.block):Cq w base (.slice A (trl l n) c) (val l):=by
 obtain⟨h1,h2⟩:=h.trim hl;refine⟨A,c,by rw[h2],?_,hc2,by rw[h2];exact h1,h0,hb⟩
 rw[h2];exact Nat.le_trans (Wt l n) hc
theorem Acd (w:World) (l:List Nat):G3 (w.alloc (.cells (l.map fun x:Nat=>(.int .u32 (x:Int):Value)).toArray 270)) (some ⟨w.heap.size,0,none⟩) l.length l:=by
 have h:=Bb.new w 270 (l.map fun x:Nat=>(.int .u32 (x:Int):Value)).toArray
 refine⟨rfl,.inr ⟨_,0,rfl,fun k hk=>?_⟩⟩
 rw[Nat.zero_add];refine(h.cell k).trans ?_;rw[List.getElem?_toArray,List.getElem?_map,Lr hk];rfl
theorem Qz (n:Nat) (w:World) (hn:n<18446744073709551616) :
 Calls Tryz.prog 170 #[.int .u64 (n:Int)] w fun e w'=>∃v,e=.returned v/\Cq w' w.heap.size v n/\Below w.heap.size w w':=by
 have hl:∀x∈[n % 4294967296,n / 4294967296],x<BB:=by
  intro x hx;simp at hx;unfold BB;rcases hx with rfl|rfl<;>omega
 have hv:val [n % 4294967296,n / 4294967296]=n:=by
  unfold val val val BB;omega
 have HB:=Lib.hid (show G3 (w.alloc (.cells #[.int .u32 ((n:Int) % 4294967296),.int .u32 ((n:Int) / 4294967296)] 270)) (some ⟨w.heap.size,0,none⟩) 2 [n % 4294967296,n / 4294967296] by
  have h:=Acd w [n % 4294967296,n / 4294967296];simpa using h)
 have HL:=Lib.hid hl;have HV:=Lib.hid hv;clear hl hv;go_enter Tryz.func170,Tryz.ntmps170
 go_wp2_with (go_at_call 172;refine(Bv (some ⟨w.heap.size,0,none⟩) 2 2 [n % 4294967296,n / 4294967296] _ (by omega) (by omega) HB.out).mono ?_;rintro e w1 ⟨rfl,hb1⟩)
 go_ret;refine⟨_,rfl,?_,Ao (An (Below.refl _ _) _) hb1⟩;have:=Kj (base:=w.heap.size) (c:=2) (HB.out.keep hb1) HL.out (by simp) (by unfold maxLen;omega) (fun h=>by cases h) (fun p hp=>by injection hp with hp;subst hp;exact Nat.le_refl _)
 rw[HV.out] at this;exact this
end
namespace Limb
theorem Wr (l:List Nat) (x:Nat):val (l++[x])=val l+BB ^ l.length*x:=by
 rw[I8];simp[val]
theorem Fo:∀{l:List Nat} {k x:Nat},k<l.length->val (l.set k x)+BB ^ k*l.getD k 0=val l+BB ^ k*x
 | y::l,0,x,_=>by simp[val];omega
 | y::l,k+1,x,h=>by
   have ih:=Fo (l:=l) (k:=k) (x:=x) (by simpa using h)
   rw[List.set_cons_succ,val,val,List.getD_cons_succ,Nat.pow_succ,Nat.mul_comm (BB ^ k) BB,Nat.mul_assoc,Nat.mul_assoc];have:=congrArg (BB*·) ih
   simp only[Nat.mul_add] at this;omega
theorem Hy {l:List Nat} {k x:Nat} (h:∀y∈l,y<BB) (hx:x<BB):∀y∈l.set k x,y<BB:=by
 intro y hy;rcases List.mem_or_eq_of_mem_set hy with g|rfl
 ·exact h y g
 ·exact hx
theorem ig {l:List Nat} {x:Nat} (h:∀y∈l,y<BB) (hx:x<BB):∀y∈l++[x],y<BB:=by
 intro y hy;rcases List.mem_append.1 hy with g|g
 ·exact h y g
 ·rw[List.mem_singleton.1 g];exact hx
theorem Ek {l:List Nat} {k j x:Nat} (hk:k<l.length):(l.set k x).getD j 0=if k=j then x else l.getD j 0:=by
 rw[List.getD,List.getElem?_set];by_cases h:k=j
 ·subst h;simp[hk]
 ·simp[h,List.getD]
theorem Gi (n k:Nat):(List.replicate n 0).getD k 0=0:=by
 rw[List.getD,List.getElem?_replicate];split<;>rfl
theorem El {l:List Nat} (h:∀y∈l,y<BB) (k:Nat):l.getD k 0<BB:=by
 rw[List.getD];rcases Nat.lt_or_ge k l.length with g|g
 ·rw[List.getElem?_eq_getElem g];exact h _ (List.getElem_mem g)
 ·rw[List.getElem?_eq_none g];decide
theorem Hn (n:Nat):∀y∈List.replicate n 0,y<BB:=by
 intro y hy;rw[List.eq_of_mem_replicate hy];decide
theorem Ga {a k:Nat} (h:(lmb a).length<=k):a % BB ^ k=a :=
 Nat.mod_eq_of_lt (Nat.lt_of_lt_of_le (Tk a) (Nat.pow_le_pow_right (by decide) h))
theorem Dh (a k:Nat):lim a k<BB:=El (Jo a) k
theorem Vi {a k:Nat} (h:(lmb a).length<=k):lim a k=0:=by
 unfold lim;rw[List.getD,List.getElem?_eq_none h];rfl
theorem Ks (B s:Nat):B*(s % BB)+B*BB*(s / BB)=B*s:=by
 rw[Nat.mul_assoc,<-Nat.mul_add,Nat.mod_add_div]
theorem Aj6 {a b k c:Nat} {r:List Nat} (hr:r.length=k) (h:val r+BB ^ k*c=a % BB ^ k+b % BB ^ k) :
 val (r++[(c+lim a k+lim b k) % BB])+BB ^ (k+1)*((c+lim a k+lim b k) / BB)=a % BB ^ (k+1)+b % BB ^ (k+1):=by
 rw[Wr,hr,Cd,Cd,Nat.pow_succ];have:=Ks (BB ^ k) (c+lim a k+lim b k);rw[Nat.mul_add (BB ^ k) (c+lim a k),Nat.mul_add (BB ^ k) c] at this;omega
theorem Aic {j c z s:Nat} {r:List Nat} (hj:j<r.length) (hs:s=c+z+r.getD j 0) :
 val (r.set j (s % BB))+BB ^ (j+1)*(s / BB)=val r+BB ^ j*c+BB ^ j*z:=by
 have h1:=Fo (x:=s % BB) hj;have h2:=Ks (BB ^ j) s;rw[Nat.pow_succ];rw[show BB ^ j*s=BB ^ j*c+BB ^ j*z+BB ^ j*r.getD j 0 by rw[hs,Nat.mul_add,Nat.mul_add]] at h2
 omega
theorem Ai9 {a b k o o' v:Nat} {r:List Nat} (hk:k<r.length) (hz:r.getD k 0=0) (h:val r+b % BB ^ k=a % BB ^ k+BB ^ k*o) (e:v+lim b k+o=lim a k+BB*o') :
 val (r.set k v)+b % BB ^ (k+1)=a % BB ^ (k+1)+BB ^ (k+1)*o':=by
 have h1:=Fo (x:=v) hk;rw[hz,Nat.mul_zero,Nat.add_zero] at h1;rw[h1,Cd,Cd,Nat.pow_succ];have:=congrArg (BB ^ k*·) e
 simp only[Nat.mul_add,<-Nat.mul_assoc] at this;omega
theorem Ack {a d k r:Nat} {q:List Nat} (hk:k<q.length) (hz:q.getD k 0=0) (h:val q*d+BB ^ (k+1)*r+a % BB ^ (k+1)=a) :
 val (q.set k ((r*BB+lim a k) / d))*d+BB ^ k*((r*BB+lim a k) % d)+a % BB ^ k=a:=by
 have h1:=Fo (x:=(r*BB+lim a k) / d) hk;rw[hz,Nat.mul_zero,Nat.add_zero] at h1;rw[h1,Nat.add_mul];rw[Cd,Nat.pow_succ] at h;have e:=Nat.div_add_mod (r*BB+lim a k) d;have e2:=congrArg (BB ^ k*·) e
 simp only[Nat.mul_add] at e2;rw[show BB ^ k*(d*((r*BB+lim a k) / d))=BB ^ k*((r*BB+lim a k) / d)*d by rw[Nat.mul_comm d,<-Nat.mul_assoc],show BB ^ k*(r*BB)=BB ^ k*BB*r by rw[Nat.mul_comm r,<-Nat.mul_assoc]] at e2
 omega
theorem Ajz {j c z o o' v:Nat} {u:List Nat} (hj:j<u.length) (e:v+(c+z) % BB+o=u.getD j 0+BB*o') :
 val (u.set j v)+BB ^ j*z+BB ^ j*(c+o)=val u+BB ^ (j+1)*((c+z) / BB+o'):=by
 have h1:=Fo (x:=v) hj;have h2:=Ks (BB ^ j) (c+z);rw[Nat.pow_succ];have e2:=congrArg (BB ^ j*·) e
 simp only[Nat.mul_add,<-Nat.mul_assoc] at e2 h2 ⊢;omega
end Limb
section
open Go.RowKit Limb
def vU (l:List Nat):Array Value:=(l.map fun x:Nat=>(.int .u32 (x:Int):Value)).toArray
def Mb (w:World) (g:Nat) (l:List Nat):Prop:=Bb w g 270 (vU l)
theorem Mb.keep {w w':World} {g:Nat} {l:List Nat} (h:Mb w g l) (hb:Below w.heap.size w w'):Mb w' g l:=Bb.keep h hb
theorem Mb.lt {w:World} {g:Nat} {l:List Nat} (h:Mb w g l):g<w.heap.size:=Bb.lt h
theorem Mb.cell {w:World} {g:Nat} {l:List Nat} (h:Mb w g l) {k:Nat} (hk:k<l.length):w.cell? ⟨g,k,none⟩=some (.int .u32 (gu l k:Int))/\w.frozen? ⟨g,k,none⟩=false:=by
 refine⟨(Bb.cell h k).trans ?_,Bb.frozen h k⟩;unfold vU;rw[List.getElem?_toArray,List.getElem?_map,Lr hk];rfl
theorem Mb.store {w:World} {g:Nat} {l:List Nat} (h:Mb w g l) (k x:Nat):Mb (w.setCell ⟨g,k,none⟩ (.int .u32 (x:Int))) g (l.set k x):=by
 have:=Bb.set_ h k (.int .u32 (x:Int));unfold Mb;rw[show vU (l.set k x)=(vU l).setIfInBounds k (.int .u32 (x:Int)) by unfold vU;rw[List.setIfInBounds_toArray,List.map_set]]
 exact this
theorem Mb.u32s {w:World} {g:Nat} {l:List Nat} (h:Mb w g l):G3 w (some ⟨g,0,none⟩) l.length l :=
 ⟨rfl,.inr ⟨g,0,rfl,fun k hk=>by rw[Nat.zero_add];exact(h.cell hk).1⟩⟩
theorem Gc (n:Nat) (hn:n<=1000000):∃Z:Array Value,(∀w,(Instr.makeSlice 157 (.int .i64 (n:Int)) (.int .i64 (n:Int))).run Tryz.prog w=.ok (.slice (some ⟨w.heap.size,0,none⟩) n n) (w.alloc (.cells Z 270)))/\∀w:World,Mb (w.alloc (.cells Z 270)) w.heap.size (List.replicate n 0):=by
 obtain⟨i,hi,hz0,hz1,hz2⟩:=info_parts Q9
 have hZ:madeCells (Value.int IntKind.u32 0).cells (n*1)=vU (List.replicate n 0):=by
  unfold vU madeCells;apply Array.ext';have e:(Value.int IntKind.u32 0).cells=#[.int .u32 0]:=by kernel_rfl
  rw[e];simp;apply List.ext_getElem
  ·simp
  ·intro j h1 h2
   simp[Nat.mod_one]
 refine⟨madeCells (Value.int IntKind.u32 0).cells (n*1),fun w=>?_,fun w=>?_⟩
 ·have hr:=run_make (P:=Tryz.prog) w 157 270 i (.int .u32 0) Tryz.underlying157 hi hz0 .i64 .i64 n n (by omega) (by omega) (by rw[hz2];omega) (by omega)
  rw[hz1] at hr;simpa using hr
 ·rw[hZ];exact Bb.new w _ _
theorem Mb.natV {w:World} {g base n v:Nat} {l:List Nat} (h:Mb w g l) (hl:∀x∈l,x<BB) (hn:l.length=n) (hc2:n<=1000000) (hb:base<=g) (hv:val l=v):Cq w base (.slice (some ⟨g,0,none⟩) (trl l n) n) v:=by
 subst hn;subst hv;exact Kj h.u32s hl (Nat.le_refl _) (by unfold maxLen;omega) (fun h=>by cases h) (fun p hp=>by injection hp with hp;subst hp;exact hb)
end
end Go.Proofs.YtpbchbcdgikonaaGreat
